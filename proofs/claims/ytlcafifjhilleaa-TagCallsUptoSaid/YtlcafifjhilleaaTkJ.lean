/-
  Contracts of functions that the claim reaches, or the logic and the plain laws that they rest on, or the row over them. (Conditions: none beyond the statement.)
-/
import Derived.Test.YtlcafifjhilleaaTkI
set_option linter.all false
namespace Go.Proofs.Ytlcafifjhilleaa
open Go.RowKit Go.SL Go.ShM
set_option maxHeartbeats 1000000
set_option maxRecDepth 20000
set_option linter.all false
theorem ais41 : ais Try.prog 41 = some (16, 5) := by kernel_rfl
theorem cf52 : cfn Try.prog 52 = true := by kernel_rfl
theorem cf53 : cfn Try.prog 53 = true := by kernel_rfl
theorem fo46_2 : fo Try.prog 46 2 = some (2, 22) := by kernel_rfl
theorem fo46_4 : fo Try.prog 46 4 = some (4, 3) := by kernel_rfl
theorem fo46_5 : fo Try.prog 46 5 = some (5, 3) := by kernel_rfl
theorem fo46_6 : fo Try.prog 46 6 = some (6, 3) := by kernel_rfl
theorem keyL_ct {W : World} {q : KQ} (hq : OKk W 1048576 q := by assumption) : Ct Try.prog 33 [.agg (eKQ q).toArray] [old W] (fun _ : Unit => .bool true) (fun _ => [old W]) := by
  refine Ct_body (n := 126) Try.func33 rfl rfl rfl fun F w0 Q hret hnorm hp => ?_
  change WC _ _ _ _ _ _ _ (_ :: F)
  obtain ⟨hqS, hqP, hqj, hqn, hqd, hdl⟩ := hq
  have hqdS : Sv [old W] q.d.v 1 (eU .u8 (w := 8)) q.d.l q.d.ao q.d.cap := hqd
  refine WC_sr fun K1 hK1 => ?_
  refine WL_ac (Ac_box (xs := eKQ q) rfl rfl) rfl rfl rfl ?_
  rintro _ _ ⟨b1, rfl, rfl⟩
  refine WL_rd (Rd_assign rfl) rfl rfl rfl ?_
  refine WL_end hK1 ?_
  refine WC_sr fun K2 hK2 => ?_
  refine WL_rd (Rd_fieldAddr rfl fo46_3) rfl rfl rfl ?_
  refine WL_rd (Rd_load rfl tk23 (v := q.d.v) (hi := eKQ_d q)) rfl rfl rfl ?_
  refine WL_ac (Ac_call cf29 rfl (hs := lent_ct (X := old W) (l := q.d.l) (hS := hqdS))) rfl rfl rfl ?_
  rintro _ _ ⟨⟨a12, cap12⟩, rfl, hA⟩
  simp only [List.cons_append, List.nil_append] at hA
  replace hA := hA.symm
  subst hA
  have s1b := lentB_len q.d.l
  refine WL_fact (fun w h => arr_facts (a := a12) (cap := cap12) (e := 1) (T := 5) (f := (eU .u8 (w := 8))) (l := (lentB q.d.l)) (by repeat (first | with_reducible exact Has.here | with_reducible refine Has.there ?_)) h) (fun s1f => ?_)
  have s1S : Sv [arr a12 cap12 1 5 (eU .u8) (lentB q.d.l)] (sl a12 q.d.l.length cap12) 1 (eU .u8 (w := 8)) q.d.l (a12.map fun g => ⟨g, 0, none⟩) cap12 := Sv_pre (T := 5) (encU .u8 (w := 8)) (lentB_pre q.d.l) (fun e => by have := s1f.1 e; rw [this] at s1b; simp at s1b) s1f.2
  have s1F : Sv [arr a12 cap12 1 5 (eU .u8) (lentB q.d.l)] (sl a12 (lentB q.d.l).length cap12) 1 (eU .u8 (w := 8)) (lentB q.d.l) (a12.map fun g => ⟨g, 0, none⟩) cap12 := Sv_own' (T := 5) (encU .u8 (w := 8)) s1f.1 s1f.2
  refine WL_rd (Rd_assign rfl) rfl rfl rfl ?_
  refine WL_end hK2 ?_
  refine WC_sr fun K3 hK3 => ?_
  refine WL_rd (Rd_assign (v := sl none 0 0) rfl) rfl rfl rfl ?_
  refine WL_end hK3 ?_
  refine WC_seq fun K4 hK4 => ?_
  refine WC_sr fun K5 hK5 => ?_
  refine WL_rd (Rd_fieldAddr rfl fo46_2) rfl rfl rfl ?_
  refine WL_rd (Rd_load rfl tk22 (v := q.p.v) (hi := eKQ_p q)) rfl rfl rfl ?_
  refine WL_rd (Rd_len_sv rfl rfl ud22) rfl rfl rfl ?_
  refine WL_rd (Rd_gtrN (j := 0) rfl rfl) rfl rfl rfl ?_
  refine WL_end hK5 ?_
  refine WC_cond rfl (fun hc0 => ?_) (fun hc0 => ?_)
  · try simp only [decide_eq_true_eq, decide_eq_false_iff_not, Bool.not_eq_true', Bool.not_eq_false', Bool.not_eq_true, Bool.not_eq_false, Int.not_lt, Int.not_le, Nat.not_lt, Nat.not_le, Decidable.not_not, ne_eq] at hc0
    obtain ⟨fp, hfp0⟩ : ∃ p, q.p.l[0]? = some p := ⟨_, List.getElem?_eq_getElem (by omega)⟩
    have hfp : Sv [old W] fp.v 1 (eU .u8 (w := 8)) fp.l fp.ao fp.cap := hqP fp (List.mem_of_getElem? hfp0)
    have hfl := joinP_mem (List.mem_of_getElem? hfp0)
    have hkd := kD_len q.d.l fp.l q.k q.n q.seg
    refine WC_region ?_
    refine WL_rd (Rd_fieldAddr rfl fo46_2) rfl rfl rfl ?_
    refine WL_rd (Rd_load rfl tk22 (v := q.p.v) (hi := eKQ_p q)) rfl rfl rfl ?_
    refine WL_rd (Rd_index_sv 0 rfl rfl ud22 sz23 (hA := hqS) (hi := by omega)) rfl rfl rfl ?_
    refine WL_rd (Rd_load_sv (i := 0) (j := 0) (u := fp.v) rfl tk23 (hA := hqS) (hl := hfp0)) rfl rfl rfl ?_
    refine WL_rd (Rd_assign rfl) rfl rfl rfl ?_
    refine WL_nil ?_
    refine Ps_next hK4 ?_
    refine WC_sr fun K6 hK6 => ?_
    refine WL_rd (Rd_move rfl) rfl rfl rfl ?_
    refine WL_ac (Ac_call cf29 rfl (hs := lent_ct (X := old W) (l := fp.l) (hS := hfp))) rfl rfl rfl ?_
    rintro _ _ ⟨⟨a22, cap22⟩, rfl, hA⟩
    simp only [List.cons_append, List.nil_append] at hA
    replace hA := hA.symm
    subst hA
    have s2b := lentB_len fp.l
    refine WL_fact (fun w h => arr_facts (a := a22) (cap := cap22) (e := 1) (T := 5) (f := (eU .u8 (w := 8))) (l := (lentB fp.l)) (by repeat (first | with_reducible exact Has.here | with_reducible refine Has.there ?_)) h) (fun s2f => ?_)
    have s2S : Sv [arr a22 cap22 1 5 (eU .u8) (lentB fp.l)] (sl a22 fp.l.length cap22) 1 (eU .u8 (w := 8)) fp.l (a22.map fun g => ⟨g, 0, none⟩) cap22 := Sv_pre (T := 5) (encU .u8 (w := 8)) (lentB_pre fp.l) (fun e => by have := s2f.1 e; rw [this] at s2b; simp at s2b) s2f.2
    have s2F : Sv [arr a22 cap22 1 5 (eU .u8) (lentB fp.l)] (sl a22 (lentB fp.l).length cap22) 1 (eU .u8 (w := 8)) (lentB fp.l) (a22.map fun g => ⟨g, 0, none⟩) cap22 := Sv_own' (T := 5) (encU .u8 (w := 8)) s2f.1 s2f.2
    refine WL_rd (Rd_assign rfl) rfl rfl rfl ?_
    refine WL_end hK6 ?_
    refine WC_seq fun K7 hK7 => ?_
    refine WC_drawA mix (fun i => ([2, 2, 2, 2, 2, 2, 2, 2, 2, 2, 2, 2, 2, 2, 2, 1, 2, 2, 2, 1, 0, 2] : List Nat).getD i 0) ?_
    refine WJ_takeP 0 rfl (by kernel_rfl) (Rd_move rfl) rfl rfl rfl (hp _ _) ?_
    refine WJ_takeP 1 rfl (by kernel_rfl) (Rd_fieldAddr rfl fo46_3) rfl rfl rfl (hp _ _) ?_
    refine WJ_tk 2 (Rd_load rfl tk23 (v := q.d.v) (hi := eKQ_d q)) hp ?_ rfl (by kernel_rfl) rfl rfl rfl
    refine WJ_takeP 3 rfl (by kernel_rfl) (Rd_len_sv rfl rfl ud23) rfl rfl rfl (hp _ _) ?_
    refine WJ_takeP 4 rfl (by kernel_rfl) (Rd_slice_hi q.d.l.length rfl rfl ud23 sz5 (hi := by omega)) rfl rfl rfl (hp _ _) ?_
    refine WJ_takeP 5 rfl (by kernel_rfl) (Rd_fieldAddr rfl fo46_4) rfl rfl rfl (hp _ _) ?_
    refine WJ_tk 6 (Rd_load rfl tk3 (v := .int .i64 q.k) (hi := eKQ_k q)) hp ?_ rfl (by kernel_rfl) rfl rfl rfl
    refine WJ_takeP 7 rfl (by kernel_rfl) (Rd_fieldAddr rfl fo46_5) rfl rfl rfl (hp _ _) ?_
    refine WJ_tk 8 (Rd_load rfl tk3 (v := .int .i64 q.n) (hi := eKQ_n q)) hp ?_ rfl (by kernel_rfl) rfl rfl rfl
    refine WJ_takeP 9 rfl (by kernel_rfl) (Rd_fieldAddr rfl fo46_6) rfl rfl rfl (hp _ _) ?_
    refine WJ_tk 10 (Rd_load rfl tk3 (v := .int .i64 q.seg) (hi := eKQ_seg q)) hp ?_ rfl (by kernel_rfl) rfl rfl rfl
    refine WJ_takeP 11 rfl (by kernel_rfl) (Rd_move rfl) rfl rfl rfl (hp _ _) ?_
    refine WJ_takeP 12 rfl (by kernel_rfl) (Rd_move rfl) rfl rfl rfl (hp _ _) ?_
    refine WJ_takeP 13 rfl (by kernel_rfl) (Rd_len_sv rfl rfl ud23) rfl rfl rfl (hp _ _) ?_
    refine WJ_takeP 14 rfl (by kernel_rfl) (Rd_slice_hi fp.l.length rfl rfl ud23 sz5 (hi := by omega)) rfl rfl rfl (hp _ _) ?_
    refine WJ_all (rs := [15, 19]) (by kernel_rfl) rfl ?_
    refine WI_cons ?_ (WI_cons ?_ (by intro _ h; cases h))
    · skip
      refine WI_ac rfl (Ac_call cf52 rfl (hs := Ct.un0 (Xs := [arr a12 cap12 1 5 (eU .u8) (lentB q.d.l), arr a22 cap22 1 5 (eU .u8) (lentB fp.l)]) (keyA_ct (X := sep [arr a12 cap12 1 5 (eU .u8) (lentB q.d.l), arr a22 cap22 1 5 (eU .u8) (lentB fp.l)]) (s := q.d.l) (f := fp.l) (k := q.k) (n := q.n) (seg := q.seg) (hS := s1S.pk (by repeat (first | with_reducible exact Has.here | with_reducible refine Has.there ?_))) (hF := s2S.pk (by repeat (first | with_reducible exact Has.here | with_reducible refine Has.there ?_)))))) rfl rfl rfl rfl ?_
      rintro _ _ ⟨⟨⟩, rfl, hA⟩
      simp only [List.cons_append, List.nil_append] at hA
      replace hA := hA.symm
      subst hA
      refine ⟨(fun _ => (by repeat (first | with_reducible exact Sub.refl | with_reducible exact Sub.nil | with_reducible refine Sub.cons (by repeat (first | with_reducible exact Ext.here | with_reducible apply Ext.there)) ?_ | with_reducible refine Sub.tail ?_))), ?_⟩
      refine WJ_takeP 16 rfl (by kernel_rfl) (Rd_move rfl) rfl rfl rfl (hp _ _) ?_
      refine WJ_takeP 17 rfl (by kernel_rfl) (Rd_ext0 rfl) rfl rfl rfl (hp _ _) ?_
      refine WJ_takeP 18 rfl (by kernel_rfl) (Rd_ext1 rfl) rfl rfl rfl (hp _ _) ?_
      refine WJ_all (rs := [19]) (by kernel_rfl) rfl ?_
      refine WI_one ?_
      refine WI_ac rfl (Ac_allocW (k := .u8) (w := 8) (m := 16) zr41) rfl rfl rfl rfl ?_
      rintro _ _ ⟨b6, rfl, rfl⟩
      refine ⟨(fun _ => (by repeat (first | with_reducible exact Sub.refl | with_reducible exact Sub.nil | with_reducible refine Sub.cons (by repeat (first | with_reducible exact Ext.here | with_reducible apply Ext.there)) ?_ | with_reducible refine Sub.tail ?_))), ?_⟩
      refine WJ_all (rs := [20]) (by kernel_rfl) rfl ?_
      refine WI_one ?_
      refine WI_ac0 rfl (Ac_storeW rfl rfl sz41) rfl rfl rfl ?_
      rintro _ _ rfl
      refine ⟨(fun h => by cases h), ?_⟩
      refine WJ_takeP 21 rfl (by kernel_rfl) (Rd_assign rfl) rfl rfl rfl (hp _ _) ?_
      refine WJ_done (by kernel_rfl) ?_
      refine Ps_next hK7 ?_
      refine WC_sr fun K8 hK8 => ?_
      refine WL_rd (Rd_fieldAddr rfl fo46_3) rfl rfl rfl ?_
      refine WL_rd (Rd_load rfl tk23 (v := q.d.v) (hi := eKQ_d q)) rfl rfl rfl ?_
      refine WL_rd (Rd_fieldAddr rfl fo46_4) rfl rfl rfl ?_
      refine WL_rd (Rd_load rfl tk3 (v := .int .i64 q.k) (hi := eKQ_k q)) rfl rfl rfl ?_
      refine WL_rd (Rd_fieldAddr rfl fo46_5) rfl rfl rfl ?_
      refine WL_rd (Rd_load rfl tk3 (v := .int .i64 q.n) (hi := eKQ_n q)) rfl rfl rfl ?_
      refine WL_rd (Rd_fieldAddr rfl fo46_6) rfl rfl rfl ?_
      refine WL_rd (Rd_load rfl tk3 (v := .int .i64 q.seg) (hi := eKQ_seg q)) rfl rfl rfl ?_
      refine WL_rd (Rd_move rfl) rfl rfl rfl ?_
      refine WL_ac (Ac_call cf53 rfl (hs := keyRA_ct (X := old W) (s := q.d.l) (f := fp.l) (k := q.k) (n := q.n) (seg := q.seg) (hS := hqdS) (hF := hfp))) rfl rfl rfl ?_
      rintro _ _ ⟨⟨⟩, rfl, hA⟩
      simp only [List.cons_append, List.nil_append] at hA
      replace hA := hA.symm
      subst hA
      refine WL_rd (Rd_move rfl) rfl rfl rfl ?_
      refine WL_rd (Rd_ext0 rfl) rfl rfl rfl ?_
      refine WL_rd (Rd_ext1 rfl) rfl rfl rfl ?_
      refine WL_ac (Ac_allocW (k := .u8) (w := 8) (m := 16) zr41) rfl rfl rfl ?_
      rintro _ _ ⟨b8, rfl, rfl⟩
      refine WL_ac0 (Ac_storeW rfl rfl sz41) rfl rfl ?_
      rintro _ _ rfl
      refine WL_rd (Rd_assign rfl) rfl rfl rfl ?_
      refine WL_end hK8 ?_
      refine WC_seq fun K9 hK9 => ?_
      refine WC_sr fun K10 hK10 => ?_
      refine WL_rd (Rd_loadW rfl tk41) rfl rfl rfl ?_
      refine WL_rd (Rd_loadW rfl tk41) rfl rfl rfl ?_
      refine WL_rd (Rd_isF (Rd_neW rfl rfl ais41) (by rw [decide_eq_true rfl]; rfl)) rfl rfl rfl ?_
      refine WL_rd (Rd_move rfl) rfl rfl rfl ?_
      refine WL_rd (Rd_move rfl) rfl rfl rfl ?_
      refine WL_rd (Rd_move rfl) rfl rfl rfl ?_
      refine WL_rd (Rd_isF (Rd_neq rfl rfl)) rfl rfl rfl ?_
      refine WL_rd (Rd_pickF rfl rfl) rfl rfl rfl ?_
      refine WL_rd (Rd_move rfl) rfl rfl rfl ?_
      refine WL_rd (Rd_move rfl) rfl rfl rfl ?_
      refine WL_rd (Rd_fieldAddr rfl fo46_3) rfl rfl rfl ?_
      refine WL_rd (Rd_load rfl tk23 (v := q.d.v) (hi := eKQ_d q)) rfl rfl rfl ?_
      refine WL_ac (Ac_call cf30 rfl (hs := Ct.un0 (Xs := [arr a12 cap12 1 5 (eU .u8) (lentB q.d.l), old W]) (kept_ct (X := sep [arr a12 cap12 1 5 (eU .u8) (lentB q.d.l), old W]) (l := (lentB q.d.l)) (l' := q.d.l) (hS := s1F.pk (by repeat (first | with_reducible exact Has.here | with_reducible refine Has.there ?_))) (hS' := hqdS.pk (by repeat (first | with_reducible exact Has.here | with_reducible refine Has.there ?_)))))) rfl rfl rfl ?_
      rintro _ _ ⟨⟨⟩, rfl, hA⟩
      simp only [List.cons_append, List.nil_append] at hA
      replace hA := hA.symm
      subst hA
      rw [decide_eq_true rfl]
      refine WL_rd (Rd_not rfl) rfl rfl rfl ?_
      refine WL_rd (Rd_pickF rfl rfl) rfl rfl rfl ?_
      refine WL_rd (Rd_move rfl) rfl rfl rfl ?_
      refine WL_rd (Rd_move rfl) rfl rfl rfl ?_
      refine WL_rd (Rd_move rfl) rfl rfl rfl ?_
      refine WL_ac (Ac_call cf30 rfl (hs := Ct.un0 (Xs := [arr a22 cap22 1 5 (eU .u8) (lentB fp.l), old W]) (kept_ct (X := sep [arr a22 cap22 1 5 (eU .u8) (lentB fp.l), old W]) (l := (lentB fp.l)) (l' := fp.l) (hS := s2F.pk (by repeat (first | with_reducible exact Has.here | with_reducible refine Has.there ?_))) (hS' := hfp.pk (by repeat (first | with_reducible exact Has.here | with_reducible refine Has.there ?_)))))) rfl rfl rfl ?_
      rintro _ _ ⟨⟨⟩, rfl, hA⟩
      simp only [List.cons_append, List.nil_append] at hA
      replace hA := hA.symm
      subst hA
      rw [decide_eq_true rfl]
      refine WL_rd (Rd_not rfl) rfl rfl rfl ?_
      refine WL_rd (Rd_pickF rfl rfl) rfl rfl rfl ?_
      refine WL_end hK10 ?_
      refine WC_condF rfl ?_
      refine WC_skip ?_
      refine Ps_next hK9 ?_
      refine WC_sr fun K11 hK11 => ?_
      refine WL_rd (Rd_move rfl) rfl rfl rfl ?_
      refine WL_ac (Ac_call cf31 rfl (hs := over_ct (l := (lentB q.d.l)) (a := a12) (cap := cap12))) rfl rfl rfl ?_
      rintro _ _ ⟨⟨⟩, rfl, hA⟩
      simp only [List.cons_append, List.nil_append] at hA
      replace hA := hA.symm
      subst hA
      have s1ol : (overB (lentB q.d.l).length).length = (lentB q.d.l).length := overB_len _
      have s1o : Sv [arr a12 cap12 1 5 (eU .u8) (overB (lentB q.d.l).length)] (sl a12 q.d.l.length cap12) 1 (eU .u8 (w := 8)) ((overB (lentB q.d.l).length).take q.d.l.length) (a12.map fun g => ⟨g, 0, none⟩) cap12 := by have h := Sv_pre (T := 5) (a := a12) (cap := cap12) (encU .u8 (w := 8)) (List.take_prefix q.d.l.length (overB (lentB q.d.l).length)) (fun e => by have := s1f.1 e; rw [this] at s1b; simp at s1b) (by rw [s1ol]; exact s1f.2); rw [List.length_take, s1ol, Nat.min_eq_left (by omega)] at h; exact h
      have s1l : ((overB (lentB q.d.l).length).take q.d.l.length).length = q.d.l.length := by rw [List.length_take, s1ol]; omega
      refine WL_end hK11 ?_
      refine WC_sr fun K12 hK12 => ?_
      refine WL_rd (Rd_move rfl) rfl rfl rfl ?_
      refine WL_ac (Ac_call cf31 rfl (hs := over_ct (l := (lentB fp.l)) (a := a22) (cap := cap22))) rfl rfl rfl ?_
      rintro _ _ ⟨⟨⟩, rfl, hA⟩
      simp only [List.cons_append, List.nil_append] at hA
      replace hA := hA.symm
      subst hA
      have s2ol : (overB (lentB fp.l).length).length = (lentB fp.l).length := overB_len _
      have s2o : Sv [arr a22 cap22 1 5 (eU .u8) (overB (lentB fp.l).length)] (sl a22 fp.l.length cap22) 1 (eU .u8 (w := 8)) ((overB (lentB fp.l).length).take fp.l.length) (a22.map fun g => ⟨g, 0, none⟩) cap22 := by have h := Sv_pre (T := 5) (a := a22) (cap := cap22) (encU .u8 (w := 8)) (List.take_prefix fp.l.length (overB (lentB fp.l).length)) (fun e => by have := s2f.1 e; rw [this] at s2b; simp at s2b) (by rw [s2ol]; exact s2f.2); rw [List.length_take, s2ol, Nat.min_eq_left (by omega)] at h; exact h
      have s2l : ((overB (lentB fp.l).length).take fp.l.length).length = fp.l.length := by rw [List.length_take, s2ol]; omega
      have hkd2 := kD_len ((overB (lentB q.d.l).length).take q.d.l.length) ((overB (lentB fp.l).length).take fp.l.length) q.k q.n q.seg
      refine WL_end hK12 ?_
      refine WC_seq fun K13 hK13 => ?_
      refine WC_drawA mix (fun i => ([2, 2, 2, 2, 2, 2, 2, 2, 2, 2, 2, 2, 2, 2, 2, 1, 2, 2, 2, 0, 2] : List Nat).getD i 0) ?_
      refine WJ_takeP 0 rfl (by kernel_rfl) (Rd_move rfl) rfl rfl rfl (hp _ _) ?_
      refine WJ_takeP 1 rfl (by kernel_rfl) (Rd_fieldAddr rfl fo46_3) rfl rfl rfl (hp _ _) ?_
      refine WJ_tk 2 (Rd_load rfl tk23 (v := q.d.v) (hi := eKQ_d q)) hp ?_ rfl (by kernel_rfl) rfl rfl rfl
      refine WJ_takeP 3 rfl (by kernel_rfl) (Rd_len_sv rfl rfl ud23) rfl rfl rfl (hp _ _) ?_
      refine WJ_takeP 4 rfl (by kernel_rfl) (Rd_slice_hi q.d.l.length rfl rfl ud23 sz5 (hi := by omega)) rfl rfl rfl (hp _ _) ?_
      refine WJ_takeP 5 rfl (by kernel_rfl) (Rd_fieldAddr rfl fo46_4) rfl rfl rfl (hp _ _) ?_
      refine WJ_tk 6 (Rd_load rfl tk3 (v := .int .i64 q.k) (hi := eKQ_k q)) hp ?_ rfl (by kernel_rfl) rfl rfl rfl
      refine WJ_takeP 7 rfl (by kernel_rfl) (Rd_fieldAddr rfl fo46_5) rfl rfl rfl (hp _ _) ?_
      refine WJ_tk 8 (Rd_load rfl tk3 (v := .int .i64 q.n) (hi := eKQ_n q)) hp ?_ rfl (by kernel_rfl) rfl rfl rfl
      refine WJ_takeP 9 rfl (by kernel_rfl) (Rd_fieldAddr rfl fo46_6) rfl rfl rfl (hp _ _) ?_
      refine WJ_tk 10 (Rd_load rfl tk3 (v := .int .i64 q.seg) (hi := eKQ_seg q)) hp ?_ rfl (by kernel_rfl) rfl rfl rfl
      refine WJ_takeP 11 rfl (by kernel_rfl) (Rd_move rfl) rfl rfl rfl (hp _ _) ?_
      refine WJ_takeP 12 rfl (by kernel_rfl) (Rd_move rfl) rfl rfl rfl (hp _ _) ?_
      refine WJ_takeP 13 rfl (by kernel_rfl) (Rd_len_sv rfl rfl ud23) rfl rfl rfl (hp _ _) ?_
      refine WJ_takeP 14 rfl (by kernel_rfl) (Rd_slice_hi fp.l.length rfl rfl ud23 sz5 (hi := by omega)) rfl rfl rfl (hp _ _) ?_
      refine WJ_all (rs := [15]) (by kernel_rfl) rfl ?_
      refine WI_one ?_
      refine WI_ac rfl (Ac_call cf52 rfl (hs := Ct.un0 (Xs := [arr a12 cap12 1 5 (eU .u8) (overB (lentB q.d.l).length), arr a22 cap22 1 5 (eU .u8) (overB (lentB fp.l).length)]) (keyA_ct (X := sep [arr a12 cap12 1 5 (eU .u8) (overB (lentB q.d.l).length), arr a22 cap22 1 5 (eU .u8) (overB (lentB fp.l).length)]) (s := ((overB (lentB q.d.l).length).take q.d.l.length)) (f := ((overB (lentB fp.l).length).take fp.l.length)) (k := q.k) (n := q.n) (seg := q.seg) (hS := s1o.pk (by repeat (first | with_reducible exact Has.here | with_reducible refine Has.there ?_))) (hF := s2o.pk (by repeat (first | with_reducible exact Has.here | with_reducible refine Has.there ?_)))))) rfl rfl rfl rfl ?_
      rintro _ _ ⟨⟨⟩, rfl, hA⟩
      simp only [List.cons_append, List.nil_append] at hA
      replace hA := hA.symm
      subst hA
      refine ⟨(fun _ => (by repeat (first | with_reducible exact Sub.refl | with_reducible exact Sub.nil | with_reducible refine Sub.cons (by repeat (first | with_reducible exact Ext.here | with_reducible apply Ext.there)) ?_ | with_reducible refine Sub.tail ?_))), ?_⟩
      refine WJ_takeP 16 rfl (by kernel_rfl) (Rd_move rfl) rfl rfl rfl (hp _ _) ?_
      refine WJ_takeP 17 rfl (by kernel_rfl) (Rd_ext0 rfl) rfl rfl rfl (hp _ _) ?_
      refine WJ_takeP 18 rfl (by kernel_rfl) (Rd_ext1 rfl) rfl rfl rfl (hp _ _) ?_
      refine WJ_all (rs := [19]) (by kernel_rfl) rfl ?_
      refine WI_one ?_
      refine WI_ac0 rfl (Ac_storeW rfl rfl sz41) rfl rfl rfl ?_
      rintro _ _ rfl
      refine ⟨(fun h => by cases h), ?_⟩
      refine WJ_takeP 20 rfl (by kernel_rfl) (Rd_assign rfl) rfl rfl rfl (hp _ _) ?_
      refine WJ_done (by kernel_rfl) ?_
      refine Ps_next hK13 ?_
      refine WC_seq fun K14 hK14 => ?_
      refine WC_drawA mix (fun i => ([2, 2, 2, 2, 2, 2, 2, 2, 2, 2, 2, 2, 2, 2, 2, 1, 2, 2, 2, 0, 2] : List Nat).getD i 0) ?_
      refine WJ_takeP 0 rfl (by kernel_rfl) (Rd_move rfl) rfl rfl rfl (hp _ _) ?_
      refine WJ_takeP 1 rfl (by kernel_rfl) (Rd_fieldAddr rfl fo46_3) rfl rfl rfl (hp _ _) ?_
      refine WJ_tk 2 (Rd_load rfl tk23 (v := q.d.v) (hi := eKQ_d q)) hp ?_ rfl (by kernel_rfl) rfl rfl rfl
      refine WJ_takeP 3 rfl (by kernel_rfl) (Rd_len_sv rfl rfl ud23) rfl rfl rfl (hp _ _) ?_
      refine WJ_takeP 4 rfl (by kernel_rfl) (Rd_slice_hi q.d.l.length rfl rfl ud23 sz5 (hi := by omega)) rfl rfl rfl (hp _ _) ?_
      refine WJ_takeP 5 rfl (by kernel_rfl) (Rd_fieldAddr rfl fo46_4) rfl rfl rfl (hp _ _) ?_
      refine WJ_tk 6 (Rd_load rfl tk3 (v := .int .i64 q.k) (hi := eKQ_k q)) hp ?_ rfl (by kernel_rfl) rfl rfl rfl
      refine WJ_takeP 7 rfl (by kernel_rfl) (Rd_fieldAddr rfl fo46_5) rfl rfl rfl (hp _ _) ?_
      refine WJ_tk 8 (Rd_load rfl tk3 (v := .int .i64 q.n) (hi := eKQ_n q)) hp ?_ rfl (by kernel_rfl) rfl rfl rfl
      refine WJ_takeP 9 rfl (by kernel_rfl) (Rd_fieldAddr rfl fo46_6) rfl rfl rfl (hp _ _) ?_
      refine WJ_tk 10 (Rd_load rfl tk3 (v := .int .i64 q.seg) (hi := eKQ_seg q)) hp ?_ rfl (by kernel_rfl) rfl rfl rfl
      refine WJ_takeP 11 rfl (by kernel_rfl) (Rd_move rfl) rfl rfl rfl (hp _ _) ?_
      refine WJ_takeP 12 rfl (by kernel_rfl) (Rd_move rfl) rfl rfl rfl (hp _ _) ?_
      refine WJ_takeP 13 rfl (by kernel_rfl) (Rd_len_sv rfl rfl ud23) rfl rfl rfl (hp _ _) ?_
      refine WJ_takeP 14 rfl (by kernel_rfl) (Rd_slice_hi fp.l.length rfl rfl ud23 sz5 (hi := by omega)) rfl rfl rfl (hp _ _) ?_
      refine WJ_all (rs := [15]) (by kernel_rfl) rfl ?_
      refine WI_one ?_
      refine WI_ac rfl (Ac_call cf53 rfl (hs := Ct.un0 (Xs := [arr a12 cap12 1 5 (eU .u8) (overB (lentB q.d.l).length), arr a22 cap22 1 5 (eU .u8) (overB (lentB fp.l).length)]) (keyRA_ct (X := sep [arr a12 cap12 1 5 (eU .u8) (overB (lentB q.d.l).length), arr a22 cap22 1 5 (eU .u8) (overB (lentB fp.l).length)]) (s := ((overB (lentB q.d.l).length).take q.d.l.length)) (f := ((overB (lentB fp.l).length).take fp.l.length)) (k := q.k) (n := q.n) (seg := q.seg) (hS := s1o.pk (by repeat (first | with_reducible exact Has.here | with_reducible refine Has.there ?_))) (hF := s2o.pk (by repeat (first | with_reducible exact Has.here | with_reducible refine Has.there ?_)))))) rfl rfl rfl rfl ?_
      rintro _ _ ⟨⟨⟩, rfl, hA⟩
      simp only [List.cons_append, List.nil_append] at hA
      replace hA := hA.symm
      subst hA
      refine ⟨(fun _ => (by repeat (first | with_reducible exact Sub.refl | with_reducible exact Sub.nil | with_reducible refine Sub.cons (by repeat (first | with_reducible exact Ext.here | with_reducible apply Ext.there)) ?_ | with_reducible refine Sub.tail ?_))), ?_⟩
      refine WJ_takeP 16 rfl (by kernel_rfl) (Rd_move rfl) rfl rfl rfl (hp _ _) ?_
      refine WJ_takeP 17 rfl (by kernel_rfl) (Rd_ext0 rfl) rfl rfl rfl (hp _ _) ?_
      refine WJ_takeP 18 rfl (by kernel_rfl) (Rd_ext1 rfl) rfl rfl rfl (hp _ _) ?_
      refine WJ_all (rs := [19]) (by kernel_rfl) rfl ?_
      refine WI_one ?_
      refine WI_ac0 rfl (Ac_storeW rfl rfl sz41) rfl rfl rfl ?_
      rintro _ _ rfl
      refine ⟨(fun h => by cases h), ?_⟩
      refine WJ_takeP 20 rfl (by kernel_rfl) (Rd_assign rfl) rfl rfl rfl (hp _ _) ?_
      refine WJ_done (by kernel_rfl) ?_
      refine Ps_next hK14 ?_
      refine WC_sr fun K15 hK15 => ?_
      refine WL_rd (Rd_loadW rfl tk41) rfl rfl rfl ?_
      refine WL_rd (Rd_loadW rfl tk41) rfl rfl rfl ?_
      refine WL_rd (Rd_isT (Rd_eqW rfl rfl ais41) (decide_eq_true rfl)) rfl rfl rfl ?_
      refine WL_rd (Rd_move rfl) rfl rfl rfl ?_
      refine WL_rd (Rd_move rfl) rfl rfl rfl ?_
      refine WL_rd (Rd_move rfl) rfl rfl rfl ?_
      refine WL_rd (Rd_isT (Rd_eql rfl rfl) (by simp)) rfl rfl rfl ?_
      refine WL_rd (Rd_pickT rfl rfl) rfl rfl rfl ?_
      refine WL_rd (Rd_assign rfl) rfl rfl rfl ?_
      refine WL_end hK15 ?_
      refine WC_ret ?_
      exact hret.go () (Rs1 rfl rfl)
    · skip
      refine WI_ac rfl (Ac_allocW (k := .u8) (w := 8) (m := 16) zr41) rfl rfl rfl rfl ?_
      rintro _ _ ⟨b6, rfl, rfl⟩
      refine ⟨(fun _ => (by repeat (first | with_reducible exact Sub.refl | with_reducible exact Sub.nil | with_reducible refine Sub.cons (by repeat (first | with_reducible exact Ext.here | with_reducible apply Ext.there)) ?_ | with_reducible refine Sub.tail ?_))), ?_⟩
      refine WJ_all (rs := [15]) (by kernel_rfl) rfl ?_
      refine WI_one ?_
      refine WI_ac rfl (Ac_call cf52 rfl (hs := Ct.un0 (Xs := [arr a12 cap12 1 5 (eU .u8) (lentB q.d.l), arr a22 cap22 1 5 (eU .u8) (lentB fp.l)]) (keyA_ct (X := sep [arr a12 cap12 1 5 (eU .u8) (lentB q.d.l), arr a22 cap22 1 5 (eU .u8) (lentB fp.l)]) (s := q.d.l) (f := fp.l) (k := q.k) (n := q.n) (seg := q.seg) (hS := s1S.pk (by repeat (first | with_reducible exact Has.here | with_reducible refine Has.there ?_))) (hF := s2S.pk (by repeat (first | with_reducible exact Has.here | with_reducible refine Has.there ?_)))))) rfl rfl rfl rfl ?_
      rintro _ _ ⟨⟨⟩, rfl, hA⟩
      simp only [List.cons_append, List.nil_append] at hA
      replace hA := hA.symm
      subst hA
      refine ⟨(fun _ => (by repeat (first | with_reducible exact Sub.refl | with_reducible exact Sub.nil | with_reducible refine Sub.cons (by repeat (first | with_reducible exact Ext.here | with_reducible apply Ext.there)) ?_ | with_reducible refine Sub.tail ?_))), ?_⟩
      refine WJ_takeP 16 rfl (by kernel_rfl) (Rd_move rfl) rfl rfl rfl (hp _ _) ?_
      refine WJ_takeP 17 rfl (by kernel_rfl) (Rd_ext0 rfl) rfl rfl rfl (hp _ _) ?_
      refine WJ_takeP 18 rfl (by kernel_rfl) (Rd_ext1 rfl) rfl rfl rfl (hp _ _) ?_
      refine WJ_all (rs := [20]) (by kernel_rfl) rfl ?_
      refine WI_one ?_
      refine WI_ac0 rfl (Ac_storeW rfl rfl sz41) rfl rfl rfl ?_
      rintro _ _ rfl
      refine ⟨(fun h => by cases h), ?_⟩
      refine WJ_takeP 21 rfl (by kernel_rfl) (Rd_assign rfl) rfl rfl rfl (hp _ _) ?_
      refine WJ_done (by kernel_rfl) ?_
      refine Ps_next hK7 ?_
      refine WC_sr fun K16 hK16 => ?_
      refine WL_rd (Rd_fieldAddr rfl fo46_3) rfl rfl rfl ?_
      refine WL_rd (Rd_load rfl tk23 (v := q.d.v) (hi := eKQ_d q)) rfl rfl rfl ?_
      refine WL_rd (Rd_fieldAddr rfl fo46_4) rfl rfl rfl ?_
      refine WL_rd (Rd_load rfl tk3 (v := .int .i64 q.k) (hi := eKQ_k q)) rfl rfl rfl ?_
      refine WL_rd (Rd_fieldAddr rfl fo46_5) rfl rfl rfl ?_
      refine WL_rd (Rd_load rfl tk3 (v := .int .i64 q.n) (hi := eKQ_n q)) rfl rfl rfl ?_
      refine WL_rd (Rd_fieldAddr rfl fo46_6) rfl rfl rfl ?_
      refine WL_rd (Rd_load rfl tk3 (v := .int .i64 q.seg) (hi := eKQ_seg q)) rfl rfl rfl ?_
      refine WL_rd (Rd_move rfl) rfl rfl rfl ?_
      refine WL_ac (Ac_call cf53 rfl (hs := keyRA_ct (X := old W) (s := q.d.l) (f := fp.l) (k := q.k) (n := q.n) (seg := q.seg) (hS := hqdS) (hF := hfp))) rfl rfl rfl ?_
      rintro _ _ ⟨⟨⟩, rfl, hA⟩
      simp only [List.cons_append, List.nil_append] at hA
      replace hA := hA.symm
      subst hA
      refine WL_rd (Rd_move rfl) rfl rfl rfl ?_
      refine WL_rd (Rd_ext0 rfl) rfl rfl rfl ?_
      refine WL_rd (Rd_ext1 rfl) rfl rfl rfl ?_
      refine WL_ac (Ac_allocW (k := .u8) (w := 8) (m := 16) zr41) rfl rfl rfl ?_
      rintro _ _ ⟨b8, rfl, rfl⟩
      refine WL_ac0 (Ac_storeW rfl rfl sz41) rfl rfl ?_
      rintro _ _ rfl
      refine WL_rd (Rd_assign rfl) rfl rfl rfl ?_
      refine WL_end hK16 ?_
      refine WC_seq fun K17 hK17 => ?_
      refine WC_sr fun K18 hK18 => ?_
      refine WL_rd (Rd_loadW rfl tk41) rfl rfl rfl ?_
      refine WL_rd (Rd_loadW rfl tk41) rfl rfl rfl ?_
      refine WL_rd (Rd_isF (Rd_neW rfl rfl ais41) (by rw [decide_eq_true rfl]; rfl)) rfl rfl rfl ?_
      refine WL_rd (Rd_move rfl) rfl rfl rfl ?_
      refine WL_rd (Rd_move rfl) rfl rfl rfl ?_
      refine WL_rd (Rd_move rfl) rfl rfl rfl ?_
      refine WL_rd (Rd_isF (Rd_neq rfl rfl)) rfl rfl rfl ?_
      refine WL_rd (Rd_pickF rfl rfl) rfl rfl rfl ?_
      refine WL_rd (Rd_move rfl) rfl rfl rfl ?_
      refine WL_rd (Rd_move rfl) rfl rfl rfl ?_
      refine WL_rd (Rd_fieldAddr rfl fo46_3) rfl rfl rfl ?_
      refine WL_rd (Rd_load rfl tk23 (v := q.d.v) (hi := eKQ_d q)) rfl rfl rfl ?_
      refine WL_ac (Ac_call cf30 rfl (hs := Ct.un0 (Xs := [arr a12 cap12 1 5 (eU .u8) (lentB q.d.l), old W]) (kept_ct (X := sep [arr a12 cap12 1 5 (eU .u8) (lentB q.d.l), old W]) (l := (lentB q.d.l)) (l' := q.d.l) (hS := s1F.pk (by repeat (first | with_reducible exact Has.here | with_reducible refine Has.there ?_))) (hS' := hqdS.pk (by repeat (first | with_reducible exact Has.here | with_reducible refine Has.there ?_)))))) rfl rfl rfl ?_
      rintro _ _ ⟨⟨⟩, rfl, hA⟩
      simp only [List.cons_append, List.nil_append] at hA
      replace hA := hA.symm
      subst hA
      rw [decide_eq_true rfl]
      refine WL_rd (Rd_not rfl) rfl rfl rfl ?_
      refine WL_rd (Rd_pickF rfl rfl) rfl rfl rfl ?_
      refine WL_rd (Rd_move rfl) rfl rfl rfl ?_
      refine WL_rd (Rd_move rfl) rfl rfl rfl ?_
      refine WL_rd (Rd_move rfl) rfl rfl rfl ?_
      refine WL_ac (Ac_call cf30 rfl (hs := Ct.un0 (Xs := [arr a22 cap22 1 5 (eU .u8) (lentB fp.l), old W]) (kept_ct (X := sep [arr a22 cap22 1 5 (eU .u8) (lentB fp.l), old W]) (l := (lentB fp.l)) (l' := fp.l) (hS := s2F.pk (by repeat (first | with_reducible exact Has.here | with_reducible refine Has.there ?_))) (hS' := hfp.pk (by repeat (first | with_reducible exact Has.here | with_reducible refine Has.there ?_)))))) rfl rfl rfl ?_
      rintro _ _ ⟨⟨⟩, rfl, hA⟩
      simp only [List.cons_append, List.nil_append] at hA
      replace hA := hA.symm
      subst hA
      rw [decide_eq_true rfl]
      refine WL_rd (Rd_not rfl) rfl rfl rfl ?_
      refine WL_rd (Rd_pickF rfl rfl) rfl rfl rfl ?_
      refine WL_end hK18 ?_
      refine WC_condF rfl ?_
      refine WC_skip ?_
      refine Ps_next hK17 ?_
      refine WC_sr fun K19 hK19 => ?_
      refine WL_rd (Rd_move rfl) rfl rfl rfl ?_
      refine WL_ac (Ac_call cf31 rfl (hs := over_ct (l := (lentB q.d.l)) (a := a12) (cap := cap12))) rfl rfl rfl ?_
      rintro _ _ ⟨⟨⟩, rfl, hA⟩
      simp only [List.cons_append, List.nil_append] at hA
      replace hA := hA.symm
      subst hA
      have s1ol : (overB (lentB q.d.l).length).length = (lentB q.d.l).length := overB_len _
      have s1o : Sv [arr a12 cap12 1 5 (eU .u8) (overB (lentB q.d.l).length)] (sl a12 q.d.l.length cap12) 1 (eU .u8 (w := 8)) ((overB (lentB q.d.l).length).take q.d.l.length) (a12.map fun g => ⟨g, 0, none⟩) cap12 := by have h := Sv_pre (T := 5) (a := a12) (cap := cap12) (encU .u8 (w := 8)) (List.take_prefix q.d.l.length (overB (lentB q.d.l).length)) (fun e => by have := s1f.1 e; rw [this] at s1b; simp at s1b) (by rw [s1ol]; exact s1f.2); rw [List.length_take, s1ol, Nat.min_eq_left (by omega)] at h; exact h
      have s1l : ((overB (lentB q.d.l).length).take q.d.l.length).length = q.d.l.length := by rw [List.length_take, s1ol]; omega
      refine WL_end hK19 ?_
      refine WC_sr fun K20 hK20 => ?_
      refine WL_rd (Rd_move rfl) rfl rfl rfl ?_
      refine WL_ac (Ac_call cf31 rfl (hs := over_ct (l := (lentB fp.l)) (a := a22) (cap := cap22))) rfl rfl rfl ?_
      rintro _ _ ⟨⟨⟩, rfl, hA⟩
      simp only [List.cons_append, List.nil_append] at hA
      replace hA := hA.symm
      subst hA
      have s2ol : (overB (lentB fp.l).length).length = (lentB fp.l).length := overB_len _
      have s2o : Sv [arr a22 cap22 1 5 (eU .u8) (overB (lentB fp.l).length)] (sl a22 fp.l.length cap22) 1 (eU .u8 (w := 8)) ((overB (lentB fp.l).length).take fp.l.length) (a22.map fun g => ⟨g, 0, none⟩) cap22 := by have h := Sv_pre (T := 5) (a := a22) (cap := cap22) (encU .u8 (w := 8)) (List.take_prefix fp.l.length (overB (lentB fp.l).length)) (fun e => by have := s2f.1 e; rw [this] at s2b; simp at s2b) (by rw [s2ol]; exact s2f.2); rw [List.length_take, s2ol, Nat.min_eq_left (by omega)] at h; exact h
      have s2l : ((overB (lentB fp.l).length).take fp.l.length).length = fp.l.length := by rw [List.length_take, s2ol]; omega
      have hkd2 := kD_len ((overB (lentB q.d.l).length).take q.d.l.length) ((overB (lentB fp.l).length).take fp.l.length) q.k q.n q.seg
      refine WL_end hK20 ?_
      refine WC_seq fun K21 hK21 => ?_
      refine WC_drawA mix (fun i => ([2, 2, 2, 2, 2, 2, 2, 2, 2, 2, 2, 2, 2, 2, 2, 1, 2, 2, 2, 0, 2] : List Nat).getD i 0) ?_
      refine WJ_takeP 0 rfl (by kernel_rfl) (Rd_move rfl) rfl rfl rfl (hp _ _) ?_
      refine WJ_takeP 1 rfl (by kernel_rfl) (Rd_fieldAddr rfl fo46_3) rfl rfl rfl (hp _ _) ?_
      refine WJ_tk 2 (Rd_load rfl tk23 (v := q.d.v) (hi := eKQ_d q)) hp ?_ rfl (by kernel_rfl) rfl rfl rfl
      refine WJ_takeP 3 rfl (by kernel_rfl) (Rd_len_sv rfl rfl ud23) rfl rfl rfl (hp _ _) ?_
      refine WJ_takeP 4 rfl (by kernel_rfl) (Rd_slice_hi q.d.l.length rfl rfl ud23 sz5 (hi := by omega)) rfl rfl rfl (hp _ _) ?_
      refine WJ_takeP 5 rfl (by kernel_rfl) (Rd_fieldAddr rfl fo46_4) rfl rfl rfl (hp _ _) ?_
      refine WJ_tk 6 (Rd_load rfl tk3 (v := .int .i64 q.k) (hi := eKQ_k q)) hp ?_ rfl (by kernel_rfl) rfl rfl rfl
      refine WJ_takeP 7 rfl (by kernel_rfl) (Rd_fieldAddr rfl fo46_5) rfl rfl rfl (hp _ _) ?_
      refine WJ_tk 8 (Rd_load rfl tk3 (v := .int .i64 q.n) (hi := eKQ_n q)) hp ?_ rfl (by kernel_rfl) rfl rfl rfl
      refine WJ_takeP 9 rfl (by kernel_rfl) (Rd_fieldAddr rfl fo46_6) rfl rfl rfl (hp _ _) ?_
      refine WJ_tk 10 (Rd_load rfl tk3 (v := .int .i64 q.seg) (hi := eKQ_seg q)) hp ?_ rfl (by kernel_rfl) rfl rfl rfl
      refine WJ_takeP 11 rfl (by kernel_rfl) (Rd_move rfl) rfl rfl rfl (hp _ _) ?_
      refine WJ_takeP 12 rfl (by kernel_rfl) (Rd_move rfl) rfl rfl rfl (hp _ _) ?_
      refine WJ_takeP 13 rfl (by kernel_rfl) (Rd_len_sv rfl rfl ud23) rfl rfl rfl (hp _ _) ?_
      refine WJ_takeP 14 rfl (by kernel_rfl) (Rd_slice_hi fp.l.length rfl rfl ud23 sz5 (hi := by omega)) rfl rfl rfl (hp _ _) ?_
      refine WJ_all (rs := [15]) (by kernel_rfl) rfl ?_
      refine WI_one ?_
      refine WI_ac rfl (Ac_call cf52 rfl (hs := Ct.un0 (Xs := [arr a12 cap12 1 5 (eU .u8) (overB (lentB q.d.l).length), arr a22 cap22 1 5 (eU .u8) (overB (lentB fp.l).length)]) (keyA_ct (X := sep [arr a12 cap12 1 5 (eU .u8) (overB (lentB q.d.l).length), arr a22 cap22 1 5 (eU .u8) (overB (lentB fp.l).length)]) (s := ((overB (lentB q.d.l).length).take q.d.l.length)) (f := ((overB (lentB fp.l).length).take fp.l.length)) (k := q.k) (n := q.n) (seg := q.seg) (hS := s1o.pk (by repeat (first | with_reducible exact Has.here | with_reducible refine Has.there ?_))) (hF := s2o.pk (by repeat (first | with_reducible exact Has.here | with_reducible refine Has.there ?_)))))) rfl rfl rfl rfl ?_
      rintro _ _ ⟨⟨⟩, rfl, hA⟩
      simp only [List.cons_append, List.nil_append] at hA
      replace hA := hA.symm
      subst hA
      refine ⟨(fun _ => (by repeat (first | with_reducible exact Sub.refl | with_reducible exact Sub.nil | with_reducible refine Sub.cons (by repeat (first | with_reducible exact Ext.here | with_reducible apply Ext.there)) ?_ | with_reducible refine Sub.tail ?_))), ?_⟩
      refine WJ_takeP 16 rfl (by kernel_rfl) (Rd_move rfl) rfl rfl rfl (hp _ _) ?_
      refine WJ_takeP 17 rfl (by kernel_rfl) (Rd_ext0 rfl) rfl rfl rfl (hp _ _) ?_
      refine WJ_takeP 18 rfl (by kernel_rfl) (Rd_ext1 rfl) rfl rfl rfl (hp _ _) ?_
      refine WJ_all (rs := [19]) (by kernel_rfl) rfl ?_
      refine WI_one ?_
      refine WI_ac0 rfl (Ac_storeW rfl rfl sz41) rfl rfl rfl ?_
      rintro _ _ rfl
      refine ⟨(fun h => by cases h), ?_⟩
      refine WJ_takeP 20 rfl (by kernel_rfl) (Rd_assign rfl) rfl rfl rfl (hp _ _) ?_
      refine WJ_done (by kernel_rfl) ?_
      refine Ps_next hK21 ?_
      refine WC_seq fun K22 hK22 => ?_
      refine WC_drawA mix (fun i => ([2, 2, 2, 2, 2, 2, 2, 2, 2, 2, 2, 2, 2, 2, 2, 1, 2, 2, 2, 0, 2] : List Nat).getD i 0) ?_
      refine WJ_takeP 0 rfl (by kernel_rfl) (Rd_move rfl) rfl rfl rfl (hp _ _) ?_
      refine WJ_takeP 1 rfl (by kernel_rfl) (Rd_fieldAddr rfl fo46_3) rfl rfl rfl (hp _ _) ?_
      refine WJ_tk 2 (Rd_load rfl tk23 (v := q.d.v) (hi := eKQ_d q)) hp ?_ rfl (by kernel_rfl) rfl rfl rfl
      refine WJ_takeP 3 rfl (by kernel_rfl) (Rd_len_sv rfl rfl ud23) rfl rfl rfl (hp _ _) ?_
      refine WJ_takeP 4 rfl (by kernel_rfl) (Rd_slice_hi q.d.l.length rfl rfl ud23 sz5 (hi := by omega)) rfl rfl rfl (hp _ _) ?_
      refine WJ_takeP 5 rfl (by kernel_rfl) (Rd_fieldAddr rfl fo46_4) rfl rfl rfl (hp _ _) ?_
      refine WJ_tk 6 (Rd_load rfl tk3 (v := .int .i64 q.k) (hi := eKQ_k q)) hp ?_ rfl (by kernel_rfl) rfl rfl rfl
      refine WJ_takeP 7 rfl (by kernel_rfl) (Rd_fieldAddr rfl fo46_5) rfl rfl rfl (hp _ _) ?_
      refine WJ_tk 8 (Rd_load rfl tk3 (v := .int .i64 q.n) (hi := eKQ_n q)) hp ?_ rfl (by kernel_rfl) rfl rfl rfl
      refine WJ_takeP 9 rfl (by kernel_rfl) (Rd_fieldAddr rfl fo46_6) rfl rfl rfl (hp _ _) ?_
      refine WJ_tk 10 (Rd_load rfl tk3 (v := .int .i64 q.seg) (hi := eKQ_seg q)) hp ?_ rfl (by kernel_rfl) rfl rfl rfl
      refine WJ_takeP 11 rfl (by kernel_rfl) (Rd_move rfl) rfl rfl rfl (hp _ _) ?_
      refine WJ_takeP 12 rfl (by kernel_rfl) (Rd_move rfl) rfl rfl rfl (hp _ _) ?_
      refine WJ_takeP 13 rfl (by kernel_rfl) (Rd_len_sv rfl rfl ud23) rfl rfl rfl (hp _ _) ?_
      refine WJ_takeP 14 rfl (by kernel_rfl) (Rd_slice_hi fp.l.length rfl rfl ud23 sz5 (hi := by omega)) rfl rfl rfl (hp _ _) ?_
      refine WJ_all (rs := [15]) (by kernel_rfl) rfl ?_
      refine WI_one ?_
      refine WI_ac rfl (Ac_call cf53 rfl (hs := Ct.un0 (Xs := [arr a12 cap12 1 5 (eU .u8) (overB (lentB q.d.l).length), arr a22 cap22 1 5 (eU .u8) (overB (lentB fp.l).length)]) (keyRA_ct (X := sep [arr a12 cap12 1 5 (eU .u8) (overB (lentB q.d.l).length), arr a22 cap22 1 5 (eU .u8) (overB (lentB fp.l).length)]) (s := ((overB (lentB q.d.l).length).take q.d.l.length)) (f := ((overB (lentB fp.l).length).take fp.l.length)) (k := q.k) (n := q.n) (seg := q.seg) (hS := s1o.pk (by repeat (first | with_reducible exact Has.here | with_reducible refine Has.there ?_))) (hF := s2o.pk (by repeat (first | with_reducible exact Has.here | with_reducible refine Has.there ?_)))))) rfl rfl rfl rfl ?_
      rintro _ _ ⟨⟨⟩, rfl, hA⟩
      simp only [List.cons_append, List.nil_append] at hA
      replace hA := hA.symm
      subst hA
      refine ⟨(fun _ => (by repeat (first | with_reducible exact Sub.refl | with_reducible exact Sub.nil | with_reducible refine Sub.cons (by repeat (first | with_reducible exact Ext.here | with_reducible apply Ext.there)) ?_ | with_reducible refine Sub.tail ?_))), ?_⟩
      refine WJ_takeP 16 rfl (by kernel_rfl) (Rd_move rfl) rfl rfl rfl (hp _ _) ?_
      refine WJ_takeP 17 rfl (by kernel_rfl) (Rd_ext0 rfl) rfl rfl rfl (hp _ _) ?_
      refine WJ_takeP 18 rfl (by kernel_rfl) (Rd_ext1 rfl) rfl rfl rfl (hp _ _) ?_
      refine WJ_all (rs := [19]) (by kernel_rfl) rfl ?_
      refine WI_one ?_
      refine WI_ac0 rfl (Ac_storeW rfl rfl sz41) rfl rfl rfl ?_
      rintro _ _ rfl
      refine ⟨(fun h => by cases h), ?_⟩
      refine WJ_takeP 20 rfl (by kernel_rfl) (Rd_assign rfl) rfl rfl rfl (hp _ _) ?_
      refine WJ_done (by kernel_rfl) ?_
      refine Ps_next hK22 ?_
      refine WC_sr fun K23 hK23 => ?_
      refine WL_rd (Rd_loadW rfl tk41) rfl rfl rfl ?_
      refine WL_rd (Rd_loadW rfl tk41) rfl rfl rfl ?_
      refine WL_rd (Rd_isT (Rd_eqW rfl rfl ais41) (decide_eq_true rfl)) rfl rfl rfl ?_
      refine WL_rd (Rd_move rfl) rfl rfl rfl ?_
      refine WL_rd (Rd_move rfl) rfl rfl rfl ?_
      refine WL_rd (Rd_move rfl) rfl rfl rfl ?_
      refine WL_rd (Rd_isT (Rd_eql rfl rfl) (by simp)) rfl rfl rfl ?_
      refine WL_rd (Rd_pickT rfl rfl) rfl rfl rfl ?_
      refine WL_rd (Rd_assign rfl) rfl rfl rfl ?_
      refine WL_end hK23 ?_
      refine WC_ret ?_
      exact hret.go () (Rs1 rfl rfl)
  · try simp only [decide_eq_true_eq, decide_eq_false_iff_not, Bool.not_eq_true', Bool.not_eq_false', Bool.not_eq_true, Bool.not_eq_false, Int.not_lt, Int.not_le, Nat.not_lt, Nat.not_le, Decidable.not_not, ne_eq] at hc0
    obtain ⟨fp, hfpe⟩ : ∃ fp : Pt, fp = ⟨[], none, 0⟩ := ⟨_, rfl⟩
    have hfp : Sv [old W] fp.v 1 (eU .u8 (w := 8)) fp.l fp.ao fp.cap := by subst hfpe; exact RdP_nil _
    have hfl : fp.l.length ≤ (joinP q.p.l).length := by subst hfpe; exact Nat.zero_le _
    have hkd := kD_len q.d.l fp.l q.k q.n q.seg
    rw [show (sl none 0 0) = fp.v from by rw [hfpe]; rfl]
    refine WC_skip ?_
    refine Ps_next hK4 ?_
    refine WC_sr fun K24 hK24 => ?_
    refine WL_rd (Rd_move rfl) rfl rfl rfl ?_
    refine WL_ac (Ac_call cf29 rfl (hs := lent_ct (X := old W) (l := fp.l) (hS := hfp))) rfl rfl rfl ?_
    rintro _ _ ⟨⟨a22, cap22⟩, rfl, hA⟩
    simp only [List.cons_append, List.nil_append] at hA
    replace hA := hA.symm
    subst hA
    have s2b := lentB_len fp.l
    refine WL_fact (fun w h => arr_facts (a := a22) (cap := cap22) (e := 1) (T := 5) (f := (eU .u8 (w := 8))) (l := (lentB fp.l)) (by repeat (first | with_reducible exact Has.here | with_reducible refine Has.there ?_)) h) (fun s2f => ?_)
    have s2S : Sv [arr a22 cap22 1 5 (eU .u8) (lentB fp.l)] (sl a22 fp.l.length cap22) 1 (eU .u8 (w := 8)) fp.l (a22.map fun g => ⟨g, 0, none⟩) cap22 := Sv_pre (T := 5) (encU .u8 (w := 8)) (lentB_pre fp.l) (fun e => by have := s2f.1 e; rw [this] at s2b; simp at s2b) s2f.2
    have s2F : Sv [arr a22 cap22 1 5 (eU .u8) (lentB fp.l)] (sl a22 (lentB fp.l).length cap22) 1 (eU .u8 (w := 8)) (lentB fp.l) (a22.map fun g => ⟨g, 0, none⟩) cap22 := Sv_own' (T := 5) (encU .u8 (w := 8)) s2f.1 s2f.2
    refine WL_rd (Rd_assign rfl) rfl rfl rfl ?_
    refine WL_end hK24 ?_
    refine WC_seq fun K25 hK25 => ?_
    refine WC_drawA mix (fun i => ([2, 2, 2, 2, 2, 2, 2, 2, 2, 2, 2, 2, 2, 2, 2, 1, 2, 2, 2, 1, 0, 2] : List Nat).getD i 0) ?_
    refine WJ_takeP 0 rfl (by kernel_rfl) (Rd_move rfl) rfl rfl rfl (hp _ _) ?_
    refine WJ_takeP 1 rfl (by kernel_rfl) (Rd_fieldAddr rfl fo46_3) rfl rfl rfl (hp _ _) ?_
    refine WJ_tk 2 (Rd_load rfl tk23 (v := q.d.v) (hi := eKQ_d q)) hp ?_ rfl (by kernel_rfl) rfl rfl rfl
    refine WJ_takeP 3 rfl (by kernel_rfl) (Rd_len_sv rfl rfl ud23) rfl rfl rfl (hp _ _) ?_
    refine WJ_takeP 4 rfl (by kernel_rfl) (Rd_slice_hi q.d.l.length rfl rfl ud23 sz5 (hi := by omega)) rfl rfl rfl (hp _ _) ?_
    refine WJ_takeP 5 rfl (by kernel_rfl) (Rd_fieldAddr rfl fo46_4) rfl rfl rfl (hp _ _) ?_
    refine WJ_tk 6 (Rd_load rfl tk3 (v := .int .i64 q.k) (hi := eKQ_k q)) hp ?_ rfl (by kernel_rfl) rfl rfl rfl
    refine WJ_takeP 7 rfl (by kernel_rfl) (Rd_fieldAddr rfl fo46_5) rfl rfl rfl (hp _ _) ?_
    refine WJ_tk 8 (Rd_load rfl tk3 (v := .int .i64 q.n) (hi := eKQ_n q)) hp ?_ rfl (by kernel_rfl) rfl rfl rfl
    refine WJ_takeP 9 rfl (by kernel_rfl) (Rd_fieldAddr rfl fo46_6) rfl rfl rfl (hp _ _) ?_
    refine WJ_tk 10 (Rd_load rfl tk3 (v := .int .i64 q.seg) (hi := eKQ_seg q)) hp ?_ rfl (by kernel_rfl) rfl rfl rfl
    refine WJ_takeP 11 rfl (by kernel_rfl) (Rd_move rfl) rfl rfl rfl (hp _ _) ?_
    refine WJ_takeP 12 rfl (by kernel_rfl) (Rd_move rfl) rfl rfl rfl (hp _ _) ?_
    refine WJ_takeP 13 rfl (by kernel_rfl) (Rd_len rfl rfl ud23) rfl rfl rfl (hp _ _) ?_
    refine WJ_takeP 14 rfl (by kernel_rfl) (Rd_slice_hi fp.l.length rfl rfl ud23 sz5 (hi := by omega)) rfl rfl rfl (hp _ _) ?_
    refine WJ_all (rs := [15, 19]) (by kernel_rfl) rfl ?_
    refine WI_cons ?_ (WI_cons ?_ (by intro _ h; cases h))
    · skip
      refine WI_ac rfl (Ac_call cf52 rfl (hs := Ct.un0 (Xs := [arr a12 cap12 1 5 (eU .u8) (lentB q.d.l), arr a22 cap22 1 5 (eU .u8) (lentB fp.l)]) (keyA_ct (X := sep [arr a12 cap12 1 5 (eU .u8) (lentB q.d.l), arr a22 cap22 1 5 (eU .u8) (lentB fp.l)]) (s := q.d.l) (f := fp.l) (k := q.k) (n := q.n) (seg := q.seg) (hS := s1S.pk (by repeat (first | with_reducible exact Has.here | with_reducible refine Has.there ?_))) (hF := s2S.pk (by repeat (first | with_reducible exact Has.here | with_reducible refine Has.there ?_)))))) rfl rfl rfl rfl ?_
      rintro _ _ ⟨⟨⟩, rfl, hA⟩
      simp only [List.cons_append, List.nil_append] at hA
      replace hA := hA.symm
      subst hA
      refine ⟨(fun _ => (by repeat (first | with_reducible exact Sub.refl | with_reducible exact Sub.nil | with_reducible refine Sub.cons (by repeat (first | with_reducible exact Ext.here | with_reducible apply Ext.there)) ?_ | with_reducible refine Sub.tail ?_))), ?_⟩
      refine WJ_takeP 16 rfl (by kernel_rfl) (Rd_move rfl) rfl rfl rfl (hp _ _) ?_
      refine WJ_takeP 17 rfl (by kernel_rfl) (Rd_ext0 rfl) rfl rfl rfl (hp _ _) ?_
      refine WJ_takeP 18 rfl (by kernel_rfl) (Rd_ext1 rfl) rfl rfl rfl (hp _ _) ?_
      refine WJ_all (rs := [19]) (by kernel_rfl) rfl ?_
      refine WI_one ?_
      refine WI_ac rfl (Ac_allocW (k := .u8) (w := 8) (m := 16) zr41) rfl rfl rfl rfl ?_
      rintro _ _ ⟨b6, rfl, rfl⟩
      refine ⟨(fun _ => (by repeat (first | with_reducible exact Sub.refl | with_reducible exact Sub.nil | with_reducible refine Sub.cons (by repeat (first | with_reducible exact Ext.here | with_reducible apply Ext.there)) ?_ | with_reducible refine Sub.tail ?_))), ?_⟩
      refine WJ_all (rs := [20]) (by kernel_rfl) rfl ?_
      refine WI_one ?_
      refine WI_ac0 rfl (Ac_storeW rfl rfl sz41) rfl rfl rfl ?_
      rintro _ _ rfl
      refine ⟨(fun h => by cases h), ?_⟩
      refine WJ_takeP 21 rfl (by kernel_rfl) (Rd_assign rfl) rfl rfl rfl (hp _ _) ?_
      refine WJ_done (by kernel_rfl) ?_
      refine Ps_next hK25 ?_
      refine WC_sr fun K26 hK26 => ?_
      refine WL_rd (Rd_fieldAddr rfl fo46_3) rfl rfl rfl ?_
      refine WL_rd (Rd_load rfl tk23 (v := q.d.v) (hi := eKQ_d q)) rfl rfl rfl ?_
      refine WL_rd (Rd_fieldAddr rfl fo46_4) rfl rfl rfl ?_
      refine WL_rd (Rd_load rfl tk3 (v := .int .i64 q.k) (hi := eKQ_k q)) rfl rfl rfl ?_
      refine WL_rd (Rd_fieldAddr rfl fo46_5) rfl rfl rfl ?_
      refine WL_rd (Rd_load rfl tk3 (v := .int .i64 q.n) (hi := eKQ_n q)) rfl rfl rfl ?_
      refine WL_rd (Rd_fieldAddr rfl fo46_6) rfl rfl rfl ?_
      refine WL_rd (Rd_load rfl tk3 (v := .int .i64 q.seg) (hi := eKQ_seg q)) rfl rfl rfl ?_
      refine WL_rd (Rd_move rfl) rfl rfl rfl ?_
      refine WL_ac (Ac_call cf53 rfl (hs := keyRA_ct (X := old W) (s := q.d.l) (f := fp.l) (k := q.k) (n := q.n) (seg := q.seg) (hS := hqdS) (hF := hfp))) rfl rfl rfl ?_
      rintro _ _ ⟨⟨⟩, rfl, hA⟩
      simp only [List.cons_append, List.nil_append] at hA
      replace hA := hA.symm
      subst hA
      refine WL_rd (Rd_move rfl) rfl rfl rfl ?_
      refine WL_rd (Rd_ext0 rfl) rfl rfl rfl ?_
      refine WL_rd (Rd_ext1 rfl) rfl rfl rfl ?_
      refine WL_ac (Ac_allocW (k := .u8) (w := 8) (m := 16) zr41) rfl rfl rfl ?_
      rintro _ _ ⟨b8, rfl, rfl⟩
      refine WL_ac0 (Ac_storeW rfl rfl sz41) rfl rfl ?_
      rintro _ _ rfl
      refine WL_rd (Rd_assign rfl) rfl rfl rfl ?_
      refine WL_end hK26 ?_
      refine WC_seq fun K27 hK27 => ?_
      refine WC_sr fun K28 hK28 => ?_
      refine WL_rd (Rd_loadW rfl tk41) rfl rfl rfl ?_
      refine WL_rd (Rd_loadW rfl tk41) rfl rfl rfl ?_
      refine WL_rd (Rd_isF (Rd_neW rfl rfl ais41) (by rw [decide_eq_true rfl]; rfl)) rfl rfl rfl ?_
      refine WL_rd (Rd_move rfl) rfl rfl rfl ?_
      refine WL_rd (Rd_move rfl) rfl rfl rfl ?_
      refine WL_rd (Rd_move rfl) rfl rfl rfl ?_
      refine WL_rd (Rd_isF (Rd_neq rfl rfl)) rfl rfl rfl ?_
      refine WL_rd (Rd_pickF rfl rfl) rfl rfl rfl ?_
      refine WL_rd (Rd_move rfl) rfl rfl rfl ?_
      refine WL_rd (Rd_move rfl) rfl rfl rfl ?_
      refine WL_rd (Rd_fieldAddr rfl fo46_3) rfl rfl rfl ?_
      refine WL_rd (Rd_load rfl tk23 (v := q.d.v) (hi := eKQ_d q)) rfl rfl rfl ?_
      refine WL_ac (Ac_call cf30 rfl (hs := Ct.un0 (Xs := [arr a12 cap12 1 5 (eU .u8) (lentB q.d.l), old W]) (kept_ct (X := sep [arr a12 cap12 1 5 (eU .u8) (lentB q.d.l), old W]) (l := (lentB q.d.l)) (l' := q.d.l) (hS := s1F.pk (by repeat (first | with_reducible exact Has.here | with_reducible refine Has.there ?_))) (hS' := hqdS.pk (by repeat (first | with_reducible exact Has.here | with_reducible refine Has.there ?_)))))) rfl rfl rfl ?_
      rintro _ _ ⟨⟨⟩, rfl, hA⟩
      simp only [List.cons_append, List.nil_append] at hA
      replace hA := hA.symm
      subst hA
      rw [decide_eq_true rfl]
      refine WL_rd (Rd_not rfl) rfl rfl rfl ?_
      refine WL_rd (Rd_pickF rfl rfl) rfl rfl rfl ?_
      refine WL_rd (Rd_move rfl) rfl rfl rfl ?_
      refine WL_rd (Rd_move rfl) rfl rfl rfl ?_
      refine WL_rd (Rd_move rfl) rfl rfl rfl ?_
      refine WL_ac (Ac_call cf30 rfl (hs := Ct.un0 (Xs := [arr a22 cap22 1 5 (eU .u8) (lentB fp.l), old W]) (kept_ct (X := sep [arr a22 cap22 1 5 (eU .u8) (lentB fp.l), old W]) (l := (lentB fp.l)) (l' := fp.l) (hS := s2F.pk (by repeat (first | with_reducible exact Has.here | with_reducible refine Has.there ?_))) (hS' := hfp.pk (by repeat (first | with_reducible exact Has.here | with_reducible refine Has.there ?_)))))) rfl rfl rfl ?_
      rintro _ _ ⟨⟨⟩, rfl, hA⟩
      simp only [List.cons_append, List.nil_append] at hA
      replace hA := hA.symm
      subst hA
      rw [decide_eq_true rfl]
      refine WL_rd (Rd_not rfl) rfl rfl rfl ?_
      refine WL_rd (Rd_pickF rfl rfl) rfl rfl rfl ?_
      refine WL_end hK28 ?_
      refine WC_condF rfl ?_
      refine WC_skip ?_
      refine Ps_next hK27 ?_
      refine WC_sr fun K29 hK29 => ?_
      refine WL_rd (Rd_move rfl) rfl rfl rfl ?_
      refine WL_ac (Ac_call cf31 rfl (hs := over_ct (l := (lentB q.d.l)) (a := a12) (cap := cap12))) rfl rfl rfl ?_
      rintro _ _ ⟨⟨⟩, rfl, hA⟩
      simp only [List.cons_append, List.nil_append] at hA
      replace hA := hA.symm
      subst hA
      have s1ol : (overB (lentB q.d.l).length).length = (lentB q.d.l).length := overB_len _
      have s1o : Sv [arr a12 cap12 1 5 (eU .u8) (overB (lentB q.d.l).length)] (sl a12 q.d.l.length cap12) 1 (eU .u8 (w := 8)) ((overB (lentB q.d.l).length).take q.d.l.length) (a12.map fun g => ⟨g, 0, none⟩) cap12 := by have h := Sv_pre (T := 5) (a := a12) (cap := cap12) (encU .u8 (w := 8)) (List.take_prefix q.d.l.length (overB (lentB q.d.l).length)) (fun e => by have := s1f.1 e; rw [this] at s1b; simp at s1b) (by rw [s1ol]; exact s1f.2); rw [List.length_take, s1ol, Nat.min_eq_left (by omega)] at h; exact h
      have s1l : ((overB (lentB q.d.l).length).take q.d.l.length).length = q.d.l.length := by rw [List.length_take, s1ol]; omega
      refine WL_end hK29 ?_
      refine WC_sr fun K30 hK30 => ?_
      refine WL_rd (Rd_move rfl) rfl rfl rfl ?_
      refine WL_ac (Ac_call cf31 rfl (hs := over_ct (l := (lentB fp.l)) (a := a22) (cap := cap22))) rfl rfl rfl ?_
      rintro _ _ ⟨⟨⟩, rfl, hA⟩
      simp only [List.cons_append, List.nil_append] at hA
      replace hA := hA.symm
      subst hA
      have s2ol : (overB (lentB fp.l).length).length = (lentB fp.l).length := overB_len _
      have s2o : Sv [arr a22 cap22 1 5 (eU .u8) (overB (lentB fp.l).length)] (sl a22 fp.l.length cap22) 1 (eU .u8 (w := 8)) ((overB (lentB fp.l).length).take fp.l.length) (a22.map fun g => ⟨g, 0, none⟩) cap22 := by have h := Sv_pre (T := 5) (a := a22) (cap := cap22) (encU .u8 (w := 8)) (List.take_prefix fp.l.length (overB (lentB fp.l).length)) (fun e => by have := s2f.1 e; rw [this] at s2b; simp at s2b) (by rw [s2ol]; exact s2f.2); rw [List.length_take, s2ol, Nat.min_eq_left (by omega)] at h; exact h
      have s2l : ((overB (lentB fp.l).length).take fp.l.length).length = fp.l.length := by rw [List.length_take, s2ol]; omega
      have hkd2 := kD_len ((overB (lentB q.d.l).length).take q.d.l.length) ((overB (lentB fp.l).length).take fp.l.length) q.k q.n q.seg
      refine WL_end hK30 ?_
      refine WC_seq fun K31 hK31 => ?_
      refine WC_drawA mix (fun i => ([2, 2, 2, 2, 2, 2, 2, 2, 2, 2, 2, 2, 2, 2, 2, 1, 2, 2, 2, 0, 2] : List Nat).getD i 0) ?_
      refine WJ_takeP 0 rfl (by kernel_rfl) (Rd_move rfl) rfl rfl rfl (hp _ _) ?_
      refine WJ_takeP 1 rfl (by kernel_rfl) (Rd_fieldAddr rfl fo46_3) rfl rfl rfl (hp _ _) ?_
      refine WJ_tk 2 (Rd_load rfl tk23 (v := q.d.v) (hi := eKQ_d q)) hp ?_ rfl (by kernel_rfl) rfl rfl rfl
      refine WJ_takeP 3 rfl (by kernel_rfl) (Rd_len_sv rfl rfl ud23) rfl rfl rfl (hp _ _) ?_
      refine WJ_takeP 4 rfl (by kernel_rfl) (Rd_slice_hi q.d.l.length rfl rfl ud23 sz5 (hi := by omega)) rfl rfl rfl (hp _ _) ?_
      refine WJ_takeP 5 rfl (by kernel_rfl) (Rd_fieldAddr rfl fo46_4) rfl rfl rfl (hp _ _) ?_
      refine WJ_tk 6 (Rd_load rfl tk3 (v := .int .i64 q.k) (hi := eKQ_k q)) hp ?_ rfl (by kernel_rfl) rfl rfl rfl
      refine WJ_takeP 7 rfl (by kernel_rfl) (Rd_fieldAddr rfl fo46_5) rfl rfl rfl (hp _ _) ?_
      refine WJ_tk 8 (Rd_load rfl tk3 (v := .int .i64 q.n) (hi := eKQ_n q)) hp ?_ rfl (by kernel_rfl) rfl rfl rfl
      refine WJ_takeP 9 rfl (by kernel_rfl) (Rd_fieldAddr rfl fo46_6) rfl rfl rfl (hp _ _) ?_
      refine WJ_tk 10 (Rd_load rfl tk3 (v := .int .i64 q.seg) (hi := eKQ_seg q)) hp ?_ rfl (by kernel_rfl) rfl rfl rfl
      refine WJ_takeP 11 rfl (by kernel_rfl) (Rd_move rfl) rfl rfl rfl (hp _ _) ?_
      refine WJ_takeP 12 rfl (by kernel_rfl) (Rd_move rfl) rfl rfl rfl (hp _ _) ?_
      refine WJ_takeP 13 rfl (by kernel_rfl) (Rd_len rfl rfl ud23) rfl rfl rfl (hp _ _) ?_
      refine WJ_takeP 14 rfl (by kernel_rfl) (Rd_slice_hi fp.l.length rfl rfl ud23 sz5 (hi := by omega)) rfl rfl rfl (hp _ _) ?_
      refine WJ_all (rs := [15]) (by kernel_rfl) rfl ?_
      refine WI_one ?_
      refine WI_ac rfl (Ac_call cf52 rfl (hs := Ct.un0 (Xs := [arr a12 cap12 1 5 (eU .u8) (overB (lentB q.d.l).length), arr a22 cap22 1 5 (eU .u8) (overB (lentB fp.l).length)]) (keyA_ct (X := sep [arr a12 cap12 1 5 (eU .u8) (overB (lentB q.d.l).length), arr a22 cap22 1 5 (eU .u8) (overB (lentB fp.l).length)]) (s := ((overB (lentB q.d.l).length).take q.d.l.length)) (f := ((overB (lentB fp.l).length).take fp.l.length)) (k := q.k) (n := q.n) (seg := q.seg) (hS := s1o.pk (by repeat (first | with_reducible exact Has.here | with_reducible refine Has.there ?_))) (hF := s2o.pk (by repeat (first | with_reducible exact Has.here | with_reducible refine Has.there ?_)))))) rfl rfl rfl rfl ?_
      rintro _ _ ⟨⟨⟩, rfl, hA⟩
      simp only [List.cons_append, List.nil_append] at hA
      replace hA := hA.symm
      subst hA
      refine ⟨(fun _ => (by repeat (first | with_reducible exact Sub.refl | with_reducible exact Sub.nil | with_reducible refine Sub.cons (by repeat (first | with_reducible exact Ext.here | with_reducible apply Ext.there)) ?_ | with_reducible refine Sub.tail ?_))), ?_⟩
      refine WJ_takeP 16 rfl (by kernel_rfl) (Rd_move rfl) rfl rfl rfl (hp _ _) ?_
      refine WJ_takeP 17 rfl (by kernel_rfl) (Rd_ext0 rfl) rfl rfl rfl (hp _ _) ?_
      refine WJ_takeP 18 rfl (by kernel_rfl) (Rd_ext1 rfl) rfl rfl rfl (hp _ _) ?_
      refine WJ_all (rs := [19]) (by kernel_rfl) rfl ?_
      refine WI_one ?_
      refine WI_ac0 rfl (Ac_storeW rfl rfl sz41) rfl rfl rfl ?_
      rintro _ _ rfl
      refine ⟨(fun h => by cases h), ?_⟩
      refine WJ_takeP 20 rfl (by kernel_rfl) (Rd_assign rfl) rfl rfl rfl (hp _ _) ?_
      refine WJ_done (by kernel_rfl) ?_
      refine Ps_next hK31 ?_
      refine WC_seq fun K32 hK32 => ?_
      refine WC_drawA mix (fun i => ([2, 2, 2, 2, 2, 2, 2, 2, 2, 2, 2, 2, 2, 2, 2, 1, 2, 2, 2, 0, 2] : List Nat).getD i 0) ?_
      refine WJ_takeP 0 rfl (by kernel_rfl) (Rd_move rfl) rfl rfl rfl (hp _ _) ?_
      refine WJ_takeP 1 rfl (by kernel_rfl) (Rd_fieldAddr rfl fo46_3) rfl rfl rfl (hp _ _) ?_
      refine WJ_tk 2 (Rd_load rfl tk23 (v := q.d.v) (hi := eKQ_d q)) hp ?_ rfl (by kernel_rfl) rfl rfl rfl
      refine WJ_takeP 3 rfl (by kernel_rfl) (Rd_len_sv rfl rfl ud23) rfl rfl rfl (hp _ _) ?_
      refine WJ_takeP 4 rfl (by kernel_rfl) (Rd_slice_hi q.d.l.length rfl rfl ud23 sz5 (hi := by omega)) rfl rfl rfl (hp _ _) ?_
      refine WJ_takeP 5 rfl (by kernel_rfl) (Rd_fieldAddr rfl fo46_4) rfl rfl rfl (hp _ _) ?_
      refine WJ_tk 6 (Rd_load rfl tk3 (v := .int .i64 q.k) (hi := eKQ_k q)) hp ?_ rfl (by kernel_rfl) rfl rfl rfl
      refine WJ_takeP 7 rfl (by kernel_rfl) (Rd_fieldAddr rfl fo46_5) rfl rfl rfl (hp _ _) ?_
      refine WJ_tk 8 (Rd_load rfl tk3 (v := .int .i64 q.n) (hi := eKQ_n q)) hp ?_ rfl (by kernel_rfl) rfl rfl rfl
      refine WJ_takeP 9 rfl (by kernel_rfl) (Rd_fieldAddr rfl fo46_6) rfl rfl rfl (hp _ _) ?_
      refine WJ_tk 10 (Rd_load rfl tk3 (v := .int .i64 q.seg) (hi := eKQ_seg q)) hp ?_ rfl (by kernel_rfl) rfl rfl rfl
      refine WJ_takeP 11 rfl (by kernel_rfl) (Rd_move rfl) rfl rfl rfl (hp _ _) ?_
      refine WJ_takeP 12 rfl (by kernel_rfl) (Rd_move rfl) rfl rfl rfl (hp _ _) ?_
      refine WJ_takeP 13 rfl (by kernel_rfl) (Rd_len rfl rfl ud23) rfl rfl rfl (hp _ _) ?_
      refine WJ_takeP 14 rfl (by kernel_rfl) (Rd_slice_hi fp.l.length rfl rfl ud23 sz5 (hi := by omega)) rfl rfl rfl (hp _ _) ?_
      refine WJ_all (rs := [15]) (by kernel_rfl) rfl ?_
      refine WI_one ?_
      refine WI_ac rfl (Ac_call cf53 rfl (hs := Ct.un0 (Xs := [arr a12 cap12 1 5 (eU .u8) (overB (lentB q.d.l).length), arr a22 cap22 1 5 (eU .u8) (overB (lentB fp.l).length)]) (keyRA_ct (X := sep [arr a12 cap12 1 5 (eU .u8) (overB (lentB q.d.l).length), arr a22 cap22 1 5 (eU .u8) (overB (lentB fp.l).length)]) (s := ((overB (lentB q.d.l).length).take q.d.l.length)) (f := ((overB (lentB fp.l).length).take fp.l.length)) (k := q.k) (n := q.n) (seg := q.seg) (hS := s1o.pk (by repeat (first | with_reducible exact Has.here | with_reducible refine Has.there ?_))) (hF := s2o.pk (by repeat (first | with_reducible exact Has.here | with_reducible refine Has.there ?_)))))) rfl rfl rfl rfl ?_
      rintro _ _ ⟨⟨⟩, rfl, hA⟩
      simp only [List.cons_append, List.nil_append] at hA
      replace hA := hA.symm
      subst hA
      refine ⟨(fun _ => (by repeat (first | with_reducible exact Sub.refl | with_reducible exact Sub.nil | with_reducible refine Sub.cons (by repeat (first | with_reducible exact Ext.here | with_reducible apply Ext.there)) ?_ | with_reducible refine Sub.tail ?_))), ?_⟩
      refine WJ_takeP 16 rfl (by kernel_rfl) (Rd_move rfl) rfl rfl rfl (hp _ _) ?_
      refine WJ_takeP 17 rfl (by kernel_rfl) (Rd_ext0 rfl) rfl rfl rfl (hp _ _) ?_
      refine WJ_takeP 18 rfl (by kernel_rfl) (Rd_ext1 rfl) rfl rfl rfl (hp _ _) ?_
      refine WJ_all (rs := [19]) (by kernel_rfl) rfl ?_
      refine WI_one ?_
      refine WI_ac0 rfl (Ac_storeW rfl rfl sz41) rfl rfl rfl ?_
      rintro _ _ rfl
      refine ⟨(fun h => by cases h), ?_⟩
      refine WJ_takeP 20 rfl (by kernel_rfl) (Rd_assign rfl) rfl rfl rfl (hp _ _) ?_
      refine WJ_done (by kernel_rfl) ?_
      refine Ps_next hK32 ?_
      refine WC_sr fun K33 hK33 => ?_
      refine WL_rd (Rd_loadW rfl tk41) rfl rfl rfl ?_
      refine WL_rd (Rd_loadW rfl tk41) rfl rfl rfl ?_
      refine WL_rd (Rd_isT (Rd_eqW rfl rfl ais41) (decide_eq_true rfl)) rfl rfl rfl ?_
      refine WL_rd (Rd_move rfl) rfl rfl rfl ?_
      refine WL_rd (Rd_move rfl) rfl rfl rfl ?_
      refine WL_rd (Rd_move rfl) rfl rfl rfl ?_
      refine WL_rd (Rd_isT (Rd_eql rfl rfl) (by simp)) rfl rfl rfl ?_
      refine WL_rd (Rd_pickT rfl rfl) rfl rfl rfl ?_
      refine WL_rd (Rd_assign rfl) rfl rfl rfl ?_
      refine WL_end hK33 ?_
      refine WC_ret ?_
      exact hret.go () (Rs1 rfl rfl)
    · skip
      refine WI_ac rfl (Ac_allocW (k := .u8) (w := 8) (m := 16) zr41) rfl rfl rfl rfl ?_
      rintro _ _ ⟨b6, rfl, rfl⟩
      refine ⟨(fun _ => (by repeat (first | with_reducible exact Sub.refl | with_reducible exact Sub.nil | with_reducible refine Sub.cons (by repeat (first | with_reducible exact Ext.here | with_reducible apply Ext.there)) ?_ | with_reducible refine Sub.tail ?_))), ?_⟩
      refine WJ_all (rs := [15]) (by kernel_rfl) rfl ?_
      refine WI_one ?_
      refine WI_ac rfl (Ac_call cf52 rfl (hs := Ct.un0 (Xs := [arr a12 cap12 1 5 (eU .u8) (lentB q.d.l), arr a22 cap22 1 5 (eU .u8) (lentB fp.l)]) (keyA_ct (X := sep [arr a12 cap12 1 5 (eU .u8) (lentB q.d.l), arr a22 cap22 1 5 (eU .u8) (lentB fp.l)]) (s := q.d.l) (f := fp.l) (k := q.k) (n := q.n) (seg := q.seg) (hS := s1S.pk (by repeat (first | with_reducible exact Has.here | with_reducible refine Has.there ?_))) (hF := s2S.pk (by repeat (first | with_reducible exact Has.here | with_reducible refine Has.there ?_)))))) rfl rfl rfl rfl ?_
      rintro _ _ ⟨⟨⟩, rfl, hA⟩
      simp only [List.cons_append, List.nil_append] at hA
      replace hA := hA.symm
      subst hA
      refine ⟨(fun _ => (by repeat (first | with_reducible exact Sub.refl | with_reducible exact Sub.nil | with_reducible refine Sub.cons (by repeat (first | with_reducible exact Ext.here | with_reducible apply Ext.there)) ?_ | with_reducible refine Sub.tail ?_))), ?_⟩
      refine WJ_takeP 16 rfl (by kernel_rfl) (Rd_move rfl) rfl rfl rfl (hp _ _) ?_
      refine WJ_takeP 17 rfl (by kernel_rfl) (Rd_ext0 rfl) rfl rfl rfl (hp _ _) ?_
      refine WJ_takeP 18 rfl (by kernel_rfl) (Rd_ext1 rfl) rfl rfl rfl (hp _ _) ?_
      refine WJ_all (rs := [20]) (by kernel_rfl) rfl ?_
      refine WI_one ?_
      refine WI_ac0 rfl (Ac_storeW rfl rfl sz41) rfl rfl rfl ?_
      rintro _ _ rfl
      refine ⟨(fun h => by cases h), ?_⟩
      refine WJ_takeP 21 rfl (by kernel_rfl) (Rd_assign rfl) rfl rfl rfl (hp _ _) ?_
      refine WJ_done (by kernel_rfl) ?_
      refine Ps_next hK25 ?_
      refine WC_sr fun K34 hK34 => ?_
      refine WL_rd (Rd_fieldAddr rfl fo46_3) rfl rfl rfl ?_
      refine WL_rd (Rd_load rfl tk23 (v := q.d.v) (hi := eKQ_d q)) rfl rfl rfl ?_
      refine WL_rd (Rd_fieldAddr rfl fo46_4) rfl rfl rfl ?_
      refine WL_rd (Rd_load rfl tk3 (v := .int .i64 q.k) (hi := eKQ_k q)) rfl rfl rfl ?_
      refine WL_rd (Rd_fieldAddr rfl fo46_5) rfl rfl rfl ?_
      refine WL_rd (Rd_load rfl tk3 (v := .int .i64 q.n) (hi := eKQ_n q)) rfl rfl rfl ?_
      refine WL_rd (Rd_fieldAddr rfl fo46_6) rfl rfl rfl ?_
      refine WL_rd (Rd_load rfl tk3 (v := .int .i64 q.seg) (hi := eKQ_seg q)) rfl rfl rfl ?_
      refine WL_rd (Rd_move rfl) rfl rfl rfl ?_
      refine WL_ac (Ac_call cf53 rfl (hs := keyRA_ct (X := old W) (s := q.d.l) (f := fp.l) (k := q.k) (n := q.n) (seg := q.seg) (hS := hqdS) (hF := hfp))) rfl rfl rfl ?_
      rintro _ _ ⟨⟨⟩, rfl, hA⟩
      simp only [List.cons_append, List.nil_append] at hA
      replace hA := hA.symm
      subst hA
      refine WL_rd (Rd_move rfl) rfl rfl rfl ?_
      refine WL_rd (Rd_ext0 rfl) rfl rfl rfl ?_
      refine WL_rd (Rd_ext1 rfl) rfl rfl rfl ?_
      refine WL_ac (Ac_allocW (k := .u8) (w := 8) (m := 16) zr41) rfl rfl rfl ?_
      rintro _ _ ⟨b8, rfl, rfl⟩
      refine WL_ac0 (Ac_storeW rfl rfl sz41) rfl rfl ?_
      rintro _ _ rfl
      refine WL_rd (Rd_assign rfl) rfl rfl rfl ?_
      refine WL_end hK34 ?_
      refine WC_seq fun K35 hK35 => ?_
      refine WC_sr fun K36 hK36 => ?_
      refine WL_rd (Rd_loadW rfl tk41) rfl rfl rfl ?_
      refine WL_rd (Rd_loadW rfl tk41) rfl rfl rfl ?_
      refine WL_rd (Rd_isF (Rd_neW rfl rfl ais41) (by rw [decide_eq_true rfl]; rfl)) rfl rfl rfl ?_
      refine WL_rd (Rd_move rfl) rfl rfl rfl ?_
      refine WL_rd (Rd_move rfl) rfl rfl rfl ?_
      refine WL_rd (Rd_move rfl) rfl rfl rfl ?_
      refine WL_rd (Rd_isF (Rd_neq rfl rfl)) rfl rfl rfl ?_
      refine WL_rd (Rd_pickF rfl rfl) rfl rfl rfl ?_
      refine WL_rd (Rd_move rfl) rfl rfl rfl ?_
      refine WL_rd (Rd_move rfl) rfl rfl rfl ?_
      refine WL_rd (Rd_fieldAddr rfl fo46_3) rfl rfl rfl ?_
      refine WL_rd (Rd_load rfl tk23 (v := q.d.v) (hi := eKQ_d q)) rfl rfl rfl ?_
      refine WL_ac (Ac_call cf30 rfl (hs := Ct.un0 (Xs := [arr a12 cap12 1 5 (eU .u8) (lentB q.d.l), old W]) (kept_ct (X := sep [arr a12 cap12 1 5 (eU .u8) (lentB q.d.l), old W]) (l := (lentB q.d.l)) (l' := q.d.l) (hS := s1F.pk (by repeat (first | with_reducible exact Has.here | with_reducible refine Has.there ?_))) (hS' := hqdS.pk (by repeat (first | with_reducible exact Has.here | with_reducible refine Has.there ?_)))))) rfl rfl rfl ?_
      rintro _ _ ⟨⟨⟩, rfl, hA⟩
      simp only [List.cons_append, List.nil_append] at hA
      replace hA := hA.symm
      subst hA
      rw [decide_eq_true rfl]
      refine WL_rd (Rd_not rfl) rfl rfl rfl ?_
      refine WL_rd (Rd_pickF rfl rfl) rfl rfl rfl ?_
      refine WL_rd (Rd_move rfl) rfl rfl rfl ?_
      refine WL_rd (Rd_move rfl) rfl rfl rfl ?_
      refine WL_rd (Rd_move rfl) rfl rfl rfl ?_
      refine WL_ac (Ac_call cf30 rfl (hs := Ct.un0 (Xs := [arr a22 cap22 1 5 (eU .u8) (lentB fp.l), old W]) (kept_ct (X := sep [arr a22 cap22 1 5 (eU .u8) (lentB fp.l), old W]) (l := (lentB fp.l)) (l' := fp.l) (hS := s2F.pk (by repeat (first | with_reducible exact Has.here | with_reducible refine Has.there ?_))) (hS' := hfp.pk (by repeat (first | with_reducible exact Has.here | with_reducible refine Has.there ?_)))))) rfl rfl rfl ?_
      rintro _ _ ⟨⟨⟩, rfl, hA⟩
      simp only [List.cons_append, List.nil_append] at hA
      replace hA := hA.symm
      subst hA
      rw [decide_eq_true rfl]
      refine WL_rd (Rd_not rfl) rfl rfl rfl ?_
      refine WL_rd (Rd_pickF rfl rfl) rfl rfl rfl ?_
      refine WL_end hK36 ?_
      refine WC_condF rfl ?_
      refine WC_skip ?_
      refine Ps_next hK35 ?_
      refine WC_sr fun K37 hK37 => ?_
      refine WL_rd (Rd_move rfl) rfl rfl rfl ?_
      refine WL_ac (Ac_call cf31 rfl (hs := over_ct (l := (lentB q.d.l)) (a := a12) (cap := cap12))) rfl rfl rfl ?_
      rintro _ _ ⟨⟨⟩, rfl, hA⟩
      simp only [List.cons_append, List.nil_append] at hA
      replace hA := hA.symm
      subst hA
      have s1ol : (overB (lentB q.d.l).length).length = (lentB q.d.l).length := overB_len _
      have s1o : Sv [arr a12 cap12 1 5 (eU .u8) (overB (lentB q.d.l).length)] (sl a12 q.d.l.length cap12) 1 (eU .u8 (w := 8)) ((overB (lentB q.d.l).length).take q.d.l.length) (a12.map fun g => ⟨g, 0, none⟩) cap12 := by have h := Sv_pre (T := 5) (a := a12) (cap := cap12) (encU .u8 (w := 8)) (List.take_prefix q.d.l.length (overB (lentB q.d.l).length)) (fun e => by have := s1f.1 e; rw [this] at s1b; simp at s1b) (by rw [s1ol]; exact s1f.2); rw [List.length_take, s1ol, Nat.min_eq_left (by omega)] at h; exact h
      have s1l : ((overB (lentB q.d.l).length).take q.d.l.length).length = q.d.l.length := by rw [List.length_take, s1ol]; omega
      refine WL_end hK37 ?_
      refine WC_sr fun K38 hK38 => ?_
      refine WL_rd (Rd_move rfl) rfl rfl rfl ?_
      refine WL_ac (Ac_call cf31 rfl (hs := over_ct (l := (lentB fp.l)) (a := a22) (cap := cap22))) rfl rfl rfl ?_
      rintro _ _ ⟨⟨⟩, rfl, hA⟩
      simp only [List.cons_append, List.nil_append] at hA
      replace hA := hA.symm
      subst hA
      have s2ol : (overB (lentB fp.l).length).length = (lentB fp.l).length := overB_len _
      have s2o : Sv [arr a22 cap22 1 5 (eU .u8) (overB (lentB fp.l).length)] (sl a22 fp.l.length cap22) 1 (eU .u8 (w := 8)) ((overB (lentB fp.l).length).take fp.l.length) (a22.map fun g => ⟨g, 0, none⟩) cap22 := by have h := Sv_pre (T := 5) (a := a22) (cap := cap22) (encU .u8 (w := 8)) (List.take_prefix fp.l.length (overB (lentB fp.l).length)) (fun e => by have := s2f.1 e; rw [this] at s2b; simp at s2b) (by rw [s2ol]; exact s2f.2); rw [List.length_take, s2ol, Nat.min_eq_left (by omega)] at h; exact h
      have s2l : ((overB (lentB fp.l).length).take fp.l.length).length = fp.l.length := by rw [List.length_take, s2ol]; omega
      have hkd2 := kD_len ((overB (lentB q.d.l).length).take q.d.l.length) ((overB (lentB fp.l).length).take fp.l.length) q.k q.n q.seg
      refine WL_end hK38 ?_
      refine WC_seq fun K39 hK39 => ?_
      refine WC_drawA mix (fun i => ([2, 2, 2, 2, 2, 2, 2, 2, 2, 2, 2, 2, 2, 2, 2, 1, 2, 2, 2, 0, 2] : List Nat).getD i 0) ?_
      refine WJ_takeP 0 rfl (by kernel_rfl) (Rd_move rfl) rfl rfl rfl (hp _ _) ?_
      refine WJ_takeP 1 rfl (by kernel_rfl) (Rd_fieldAddr rfl fo46_3) rfl rfl rfl (hp _ _) ?_
      refine WJ_tk 2 (Rd_load rfl tk23 (v := q.d.v) (hi := eKQ_d q)) hp ?_ rfl (by kernel_rfl) rfl rfl rfl
      refine WJ_takeP 3 rfl (by kernel_rfl) (Rd_len_sv rfl rfl ud23) rfl rfl rfl (hp _ _) ?_
      refine WJ_takeP 4 rfl (by kernel_rfl) (Rd_slice_hi q.d.l.length rfl rfl ud23 sz5 (hi := by omega)) rfl rfl rfl (hp _ _) ?_
      refine WJ_takeP 5 rfl (by kernel_rfl) (Rd_fieldAddr rfl fo46_4) rfl rfl rfl (hp _ _) ?_
      refine WJ_tk 6 (Rd_load rfl tk3 (v := .int .i64 q.k) (hi := eKQ_k q)) hp ?_ rfl (by kernel_rfl) rfl rfl rfl
      refine WJ_takeP 7 rfl (by kernel_rfl) (Rd_fieldAddr rfl fo46_5) rfl rfl rfl (hp _ _) ?_
      refine WJ_tk 8 (Rd_load rfl tk3 (v := .int .i64 q.n) (hi := eKQ_n q)) hp ?_ rfl (by kernel_rfl) rfl rfl rfl
      refine WJ_takeP 9 rfl (by kernel_rfl) (Rd_fieldAddr rfl fo46_6) rfl rfl rfl (hp _ _) ?_
      refine WJ_tk 10 (Rd_load rfl tk3 (v := .int .i64 q.seg) (hi := eKQ_seg q)) hp ?_ rfl (by kernel_rfl) rfl rfl rfl
      refine WJ_takeP 11 rfl (by kernel_rfl) (Rd_move rfl) rfl rfl rfl (hp _ _) ?_
      refine WJ_takeP 12 rfl (by kernel_rfl) (Rd_move rfl) rfl rfl rfl (hp _ _) ?_
      refine WJ_takeP 13 rfl (by kernel_rfl) (Rd_len rfl rfl ud23) rfl rfl rfl (hp _ _) ?_
      refine WJ_takeP 14 rfl (by kernel_rfl) (Rd_slice_hi fp.l.length rfl rfl ud23 sz5 (hi := by omega)) rfl rfl rfl (hp _ _) ?_
      refine WJ_all (rs := [15]) (by kernel_rfl) rfl ?_
      refine WI_one ?_
      refine WI_ac rfl (Ac_call cf52 rfl (hs := Ct.un0 (Xs := [arr a12 cap12 1 5 (eU .u8) (overB (lentB q.d.l).length), arr a22 cap22 1 5 (eU .u8) (overB (lentB fp.l).length)]) (keyA_ct (X := sep [arr a12 cap12 1 5 (eU .u8) (overB (lentB q.d.l).length), arr a22 cap22 1 5 (eU .u8) (overB (lentB fp.l).length)]) (s := ((overB (lentB q.d.l).length).take q.d.l.length)) (f := ((overB (lentB fp.l).length).take fp.l.length)) (k := q.k) (n := q.n) (seg := q.seg) (hS := s1o.pk (by repeat (first | with_reducible exact Has.here | with_reducible refine Has.there ?_))) (hF := s2o.pk (by repeat (first | with_reducible exact Has.here | with_reducible refine Has.there ?_)))))) rfl rfl rfl rfl ?_
      rintro _ _ ⟨⟨⟩, rfl, hA⟩
      simp only [List.cons_append, List.nil_append] at hA
      replace hA := hA.symm
      subst hA
      refine ⟨(fun _ => (by repeat (first | with_reducible exact Sub.refl | with_reducible exact Sub.nil | with_reducible refine Sub.cons (by repeat (first | with_reducible exact Ext.here | with_reducible apply Ext.there)) ?_ | with_reducible refine Sub.tail ?_))), ?_⟩
      refine WJ_takeP 16 rfl (by kernel_rfl) (Rd_move rfl) rfl rfl rfl (hp _ _) ?_
      refine WJ_takeP 17 rfl (by kernel_rfl) (Rd_ext0 rfl) rfl rfl rfl (hp _ _) ?_
      refine WJ_takeP 18 rfl (by kernel_rfl) (Rd_ext1 rfl) rfl rfl rfl (hp _ _) ?_
      refine WJ_all (rs := [19]) (by kernel_rfl) rfl ?_
      refine WI_one ?_
      refine WI_ac0 rfl (Ac_storeW rfl rfl sz41) rfl rfl rfl ?_
      rintro _ _ rfl
      refine ⟨(fun h => by cases h), ?_⟩
      refine WJ_takeP 20 rfl (by kernel_rfl) (Rd_assign rfl) rfl rfl rfl (hp _ _) ?_
      refine WJ_done (by kernel_rfl) ?_
      refine Ps_next hK39 ?_
      refine WC_seq fun K40 hK40 => ?_
      refine WC_drawA mix (fun i => ([2, 2, 2, 2, 2, 2, 2, 2, 2, 2, 2, 2, 2, 2, 2, 1, 2, 2, 2, 0, 2] : List Nat).getD i 0) ?_
      refine WJ_takeP 0 rfl (by kernel_rfl) (Rd_move rfl) rfl rfl rfl (hp _ _) ?_
      refine WJ_takeP 1 rfl (by kernel_rfl) (Rd_fieldAddr rfl fo46_3) rfl rfl rfl (hp _ _) ?_
      refine WJ_tk 2 (Rd_load rfl tk23 (v := q.d.v) (hi := eKQ_d q)) hp ?_ rfl (by kernel_rfl) rfl rfl rfl
      refine WJ_takeP 3 rfl (by kernel_rfl) (Rd_len_sv rfl rfl ud23) rfl rfl rfl (hp _ _) ?_
      refine WJ_takeP 4 rfl (by kernel_rfl) (Rd_slice_hi q.d.l.length rfl rfl ud23 sz5 (hi := by omega)) rfl rfl rfl (hp _ _) ?_
      refine WJ_takeP 5 rfl (by kernel_rfl) (Rd_fieldAddr rfl fo46_4) rfl rfl rfl (hp _ _) ?_
      refine WJ_tk 6 (Rd_load rfl tk3 (v := .int .i64 q.k) (hi := eKQ_k q)) hp ?_ rfl (by kernel_rfl) rfl rfl rfl
      refine WJ_takeP 7 rfl (by kernel_rfl) (Rd_fieldAddr rfl fo46_5) rfl rfl rfl (hp _ _) ?_
      refine WJ_tk 8 (Rd_load rfl tk3 (v := .int .i64 q.n) (hi := eKQ_n q)) hp ?_ rfl (by kernel_rfl) rfl rfl rfl
      refine WJ_takeP 9 rfl (by kernel_rfl) (Rd_fieldAddr rfl fo46_6) rfl rfl rfl (hp _ _) ?_
      refine WJ_tk 10 (Rd_load rfl tk3 (v := .int .i64 q.seg) (hi := eKQ_seg q)) hp ?_ rfl (by kernel_rfl) rfl rfl rfl
      refine WJ_takeP 11 rfl (by kernel_rfl) (Rd_move rfl) rfl rfl rfl (hp _ _) ?_
      refine WJ_takeP 12 rfl (by kernel_rfl) (Rd_move rfl) rfl rfl rfl (hp _ _) ?_
      refine WJ_takeP 13 rfl (by kernel_rfl) (Rd_len rfl rfl ud23) rfl rfl rfl (hp _ _) ?_
      refine WJ_takeP 14 rfl (by kernel_rfl) (Rd_slice_hi fp.l.length rfl rfl ud23 sz5 (hi := by omega)) rfl rfl rfl (hp _ _) ?_
      refine WJ_all (rs := [15]) (by kernel_rfl) rfl ?_
      refine WI_one ?_
      refine WI_ac rfl (Ac_call cf53 rfl (hs := Ct.un0 (Xs := [arr a12 cap12 1 5 (eU .u8) (overB (lentB q.d.l).length), arr a22 cap22 1 5 (eU .u8) (overB (lentB fp.l).length)]) (keyRA_ct (X := sep [arr a12 cap12 1 5 (eU .u8) (overB (lentB q.d.l).length), arr a22 cap22 1 5 (eU .u8) (overB (lentB fp.l).length)]) (s := ((overB (lentB q.d.l).length).take q.d.l.length)) (f := ((overB (lentB fp.l).length).take fp.l.length)) (k := q.k) (n := q.n) (seg := q.seg) (hS := s1o.pk (by repeat (first | with_reducible exact Has.here | with_reducible refine Has.there ?_))) (hF := s2o.pk (by repeat (first | with_reducible exact Has.here | with_reducible refine Has.there ?_)))))) rfl rfl rfl rfl ?_
      rintro _ _ ⟨⟨⟩, rfl, hA⟩
      simp only [List.cons_append, List.nil_append] at hA
      replace hA := hA.symm
      subst hA
      refine ⟨(fun _ => (by repeat (first | with_reducible exact Sub.refl | with_reducible exact Sub.nil | with_reducible refine Sub.cons (by repeat (first | with_reducible exact Ext.here | with_reducible apply Ext.there)) ?_ | with_reducible refine Sub.tail ?_))), ?_⟩
      refine WJ_takeP 16 rfl (by kernel_rfl) (Rd_move rfl) rfl rfl rfl (hp _ _) ?_
      refine WJ_takeP 17 rfl (by kernel_rfl) (Rd_ext0 rfl) rfl rfl rfl (hp _ _) ?_
      refine WJ_takeP 18 rfl (by kernel_rfl) (Rd_ext1 rfl) rfl rfl rfl (hp _ _) ?_
      refine WJ_all (rs := [19]) (by kernel_rfl) rfl ?_
      refine WI_one ?_
      refine WI_ac0 rfl (Ac_storeW rfl rfl sz41) rfl rfl rfl ?_
      rintro _ _ rfl
      refine ⟨(fun h => by cases h), ?_⟩
      refine WJ_takeP 20 rfl (by kernel_rfl) (Rd_assign rfl) rfl rfl rfl (hp _ _) ?_
      refine WJ_done (by kernel_rfl) ?_
      refine Ps_next hK40 ?_
      refine WC_sr fun K41 hK41 => ?_
      refine WL_rd (Rd_loadW rfl tk41) rfl rfl rfl ?_
      refine WL_rd (Rd_loadW rfl tk41) rfl rfl rfl ?_
      refine WL_rd (Rd_isT (Rd_eqW rfl rfl ais41) (decide_eq_true rfl)) rfl rfl rfl ?_
      refine WL_rd (Rd_move rfl) rfl rfl rfl ?_
      refine WL_rd (Rd_move rfl) rfl rfl rfl ?_
      refine WL_rd (Rd_move rfl) rfl rfl rfl ?_
      refine WL_rd (Rd_isT (Rd_eql rfl rfl) (by simp)) rfl rfl rfl ?_
      refine WL_rd (Rd_pickT rfl rfl) rfl rfl rfl ?_
      refine WL_rd (Rd_assign rfl) rfl rfl rfl ?_
      refine WL_end hK41 ?_
      refine WC_ret ?_
      exact hret.go () (Rs1 rfl rfl)
end Go.Proofs.Ytlcafifjhilleaa
