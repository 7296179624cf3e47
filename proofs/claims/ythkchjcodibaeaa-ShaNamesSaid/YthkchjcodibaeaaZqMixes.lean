/-
  Contracts of functions that the claim reaches, or the logic and the plain laws that they rest on, or the row over them. (Conditions: none beyond the statement.)
-/
import Derived.Test.YthkchjcodibaeaaZqB
set_option linter.all false
namespace Go.Proofs.Ythkchjcodibaeaa
open Go.RowKit Go.SL Go.ShM
set_option maxHeartbeats 1000000
set_option maxRecDepth 20000
set_option linter.all false

theorem joinP_one (p : Pt) : joinP [p] = p.l := by simp [joinP]
theorem sum1_ct {b : Nat} {X : Asn} {v : Value} {l : List B8} {ao : Option Addr} {cap2 : Nat} (hS : Sv [X] v 1 (eU .u8 (w := 8)) l ao cap2 := by assumption) (hl : l.length ≤ 900000000000 := by omega) : Ct Try.prog 34 [sl (some b) 1 1] [arr (some b) 1 1 32 fP [(⟨l, ao, cap2⟩ : Pt)], X] (fun _ : Unit => aU .u8 (dgM l)) (fun _ => [arr (some b) 1 1 32 fP [(⟨l, ao, cap2⟩ : Pt)], X]) := by
  have hv := hS.val
  subst hv
  have h1 : RdP [X] (⟨l, ao, cap2⟩ : Pt) := hS
  have h3 : Sv [arr (some b) 1 1 32 fP [(⟨l, ao, cap2⟩ : Pt)]] (sl (some b) 1 1) 1 fP [(⟨l, ao, cap2⟩ : Pt)] (some ⟨b, 0, none⟩) 1 := Sv_own' (a := some b) (cap := 1) (T := 32) encP (l := [(⟨l, ao, cap2⟩ : Pt)]) (by simp) (Nat.le_refl 1)
  have hj : joinP [(⟨l, ao, cap2⟩ : Pt)] = l := joinP_one _
  have h := Ct.un (Xs := [arr (some b) 1 1 32 fP [(⟨l, ao, cap2⟩ : Pt)], X]) (sum_ct (X := sep [arr (some b) 1 1 32 fP [(⟨l, ao, cap2⟩ : Pt)], X]) (ps := [(⟨l, ao, cap2⟩ : Pt)]) (hS := h3.pk (by repeat (first | with_reducible exact Has.here | with_reducible refine Has.there ?_))) (hP := List.forall_mem_cons.2 ⟨h1.pk (by repeat (first | with_reducible exact Has.here | with_reducible refine Has.there ?_)), by simp⟩) (hn := by rw [hj]; exact hl) (hk := by show 1 ≤ 900000000000; omega))
  rw [hj] at h
  exact h

theorem Mixes_ct {X : Asn} {v : Value} {l : List B8} {ao : Option Addr} {cap2 : Nat} (hS : Sv [X] v 1 (eU .u8 (w := 8)) l ao cap2 := by assumption) (hl : l.length ≤ 900000000000 := by omega) : Ct Try.prog 5 [v] [X] (fun _ : Unit => .bool true) (fun _ => [X]) := by
  refine Ct_body (n := 77) Try.func5 rfl rfl rfl fun F w0 Q hret hnorm hp => ?_
  change WC _ _ _ _ _ _ _ (_ :: F)
  obtain rfl := hS.val
  have hn0 : ([] : List B8).length = 0 := rfl
  have hil := iniM_len
  have hpl := padM_len l.length
  have hpz := padZ_lt l.length
  have hfl := full_len l
  have hfm := full_mod l
  have hdl := dgM_len l
  refine WC_sr fun K1 hK1 => ?_
  refine WL_rd (Rd_assign rfl) rfl rfl rfl ?_
  refine WL_end hK1 ?_
  refine WC_seq fun K2 hK2 => ?_
  refine WC_sr fun K3 hK3 => ?_
  refine WL_ac (Ac_call cf24 rfl (hs := lives_ct)) rfl rfl rfl ?_
  rintro _ _ ⟨⟨⟩, rfl, hA⟩
  simp only [List.cons_append, List.nil_append] at hA
  replace hA := hA.symm
  subst hA
  refine WL_rd (Rd_not rfl) rfl rfl rfl ?_
  refine WL_end hK3 ?_
  refine WC_condF rfl ?_
  refine WC_skip ?_
  refine Ps_next hK2 ?_
  refine WC_sr fun K4 hK4 => ?_
  refine WL_rd (Rd_move rfl) rfl rfl rfl ?_
  refine WL_rd (Rd_len_sv rfl rfl ud32) rfl rfl rfl ?_
  refine WL_ac (Ac_call cf29 rfl (hs := pad_ct (n := l.length))) rfl rfl rfl ?_
  rintro _ _ ⟨⟨a17, cap17⟩, rfl, hA⟩
  simp only [List.cons_append, List.nil_append] at hA
  replace hA := hA.symm
  subst hA
  refine WL_rd (Rd_move rfl) rfl rfl rfl ?_
  refine WL_rd (Rd_ext0 rfl) rfl rfl rfl ?_
  refine WL_rd (Rd_ext1 rfl) rfl rfl rfl ?_
  refine WL_rd (Rd_assign rfl) rfl rfl rfl ?_
  refine WL_rd (Rd_assign rfl) rfl rfl rfl ?_
  refine WL_end hK4 ?_
  refine WC_seq fun K5 hK5 => ?_
  refine WC_sr fun K6 hK6 => ?_
  refine WL_rd (Rd_move rfl) rfl rfl rfl ?_
  refine WL_rd (Rd_neqN (i := 0) (j := 0) rfl rfl) rfl rfl rfl ?_
  refine WL_end hK6 ?_
  refine WC_condF rfl ?_
  refine WC_skip ?_
  refine Ps_next hK5 ?_
  refine WC_sr fun K7 hK7 => ?_
  refine WL_rd (Rd_assign (v := sl none 0 0) rfl) rfl rfl rfl ?_
  refine WL_nilarr (eU .u8 (w := 8)) 1 5 ?_
  refine WL_end hK7 ?_
  refine WC_sr fun K8 hK8 => ?_
  refine WL_rd (Rd_move rfl) rfl rfl rfl ?_
  refine WL_rd (Rd_move rfl) rfl rfl rfl ?_
  refine WL_ac (Ac_appendS (f := (eU .u8 (w := 8))) (encU .u8) rfl rfl ud32 ud32 el5 (hS := hS)) rfl rfl rfl ?_
  rintro _ _ ⟨a24, cap24, rfl, rfl⟩
  rw [show ([] : List B8) ++ l = l from rfl]
  simp only [List.length_nil, Nat.zero_add]
  refine WL_rd (Rd_assign rfl) rfl rfl rfl ?_
  refine WL_end hK8 ?_
  refine WC_sr fun K9 hK9 => ?_
  refine WL_rd (Rd_move rfl) rfl rfl rfl ?_
  refine WL_rd (Rd_move rfl) rfl rfl rfl ?_
  refine WL_fact (fun w h => arr_facts (a := a17) (cap := cap17) (e := 1) (T := 5) (f := eU .u8 (w := 8)) (l := padM l.length) (by repeat (first | with_reducible exact Has.here | with_reducible refine Has.there ?_)) h) (fun hf2 => ?_)
  have hS2 : Sv [arr a17 cap17 1 5 (eU .u8) (padM l.length)] (sl a17 (padM l.length).length cap17) 1 (eU .u8 (w := 8)) (padM l.length) (a17.map fun g => ⟨g, 0, none⟩) cap17 := Sv_own' (encU .u8 (w := 8)) hf2.1 hf2.2
  refine WL_ac (Ac_appendS (f := (eU .u8 (w := 8))) (encU .u8) rfl rfl ud32 ud32 el5 (hS := hS2)) rfl rfl rfl ?_
  rintro _ _ ⟨a27, cap27, rfl, rfl⟩
  rw [show l ++ padM l.length = full l from rfl, ← full_len]
  refine WL_some (a := a27) (by repeat (first | with_reducible exact Has.here | with_reducible refine Has.there ?_)) (by omega) (fun gb hgb hcp => ?_)
  subst hgb
  refine WL_rd (Rd_assign rfl) rfl rfl rfl ?_
  refine WL_end hK9 ?_
  refine WC_sr fun K10 hK10 => ?_
  refine WL_ac (Ac_call cf25 rfl (hs := init_ct)) rfl rfl rfl ?_
  rintro _ _ ⟨⟨⟩, rfl, hA⟩
  simp only [List.cons_append, List.nil_append] at hA
  replace hA := hA.symm
  subst hA
  refine WL_ac (Ac_allocW (k := .u32) (w := 32) (m := 8) zr25) rfl rfl rfl ?_
  rintro _ _ ⟨b6, rfl, rfl⟩
  refine WL_ac0 (Ac_storeW rfl rfl sz25) rfl rfl ?_
  rintro _ _ rfl
  refine WL_end hK10 ?_
  refine WC_seq fun K11 hK11 => ?_
  refine WC_sr fun K12 hK12 => ?_
  refine WL_rd (Rd_assign rfl) rfl rfl rfl ?_
  refine WL_end hK12 ?_
  refine WC_block ?_
  rw [show arr (some b6) 8 1 25 (eU .u32 (w := 32)) iniM = arr (some b6) 8 1 25 (eU .u32 (w := 32)) (blkI (full l) 0) from rfl]
  refine WC_loopK (σ := Nat) (fun c => [(7, .int .i64 (((64 * c) : Nat) : Int))]) (fun c => [arr (some b6) 8 1 25 (eU .u32 (w := 32)) (blkI (full l) c)]) (fun c => 64 * c ≤ (full l).length) (fun c => (full l).length - 64 * c) (0) [0, 2, 5, 6, 10, 11, 51, 52, 53, 54, 55, 56, 57, 58, 59, 60, 61, 62, 63, 64, 65, 66, 67, 68, 69, 70, 71, 72, 73, 74, 75, 76] (by repeat (first | exact Kep.nil | apply Kep.drop rfl | apply Kep.keep rfl)) (by (try dsimp only); repeat (first | with_reducible exact Gv.nil | (with_reducible apply Gv.cons; · (repeat (first | with_reducible exact Ext.here | with_reducible apply Ext.there))))) ?_ ?_ Sub.refl ?_
  · omega
  · (try dsimp only); exact (Wk.cons (by first | rfl | (simp only [List.length_append, List.length_cons, List.length_nil, List.length_replicate, Nat.zero_add]; rfl) | (simp; done)) Wk.nil)
  · rintro c hc K13 hK13
    simp only [List.cons_append, List.nil_append]
    have hbl := blkI_len (full l) c
    have hbl2 := blkI_len (full l) (c + 1)
    refine WC_seq fun K14 hK14 => ?_
    refine WC_sr fun K15 hK15 => ?_
    refine WL_rd (Rd_move rfl) rfl rfl rfl ?_
    refine WL_rd (Rd_addN (j := 64) rfl rfl) rfl rfl rfl ?_
    refine WL_rd (Rd_move rfl) rfl rfl rfl ?_
    refine WL_rd (Rd_len rfl rfl ud32) rfl rfl rfl ?_
    refine WL_rd (Rd_leqN rfl rfl) rfl rfl rfl ?_
    refine WL_end hK15 ?_
    refine WC_cond rfl (fun hc2 => ?_) (fun hc2 => ?_)
    · try simp only [decide_eq_true_eq, decide_eq_false_iff_not, Bool.not_eq_true', Bool.not_eq_false', Bool.not_eq_true, Bool.not_eq_false, Int.not_lt, Int.not_le, Nat.not_lt, Nat.not_le, Decidable.not_not, ne_eq] at hc2
      refine WC_skip ?_
      refine Ps_next hK14 ?_
      refine WC_seq fun K16 hK16 => ?_
      refine WC_block ?_
      refine WC_sr fun K17 hK17 => ?_
      refine WL_ac (Ac_allocW (k := .u8) (w := 8) (m := 64) zr28) rfl rfl rfl ?_
      rintro _ _ ⟨b8, rfl, rfl⟩
      refine WL_end hK17 ?_
      refine WC_seq fun K18 hK18 => ?_
      refine WC_sr fun K19 hK19 => ?_
      refine WL_rd (Rd_assign rfl) rfl rfl rfl ?_
      refine WL_end hK19 ?_
      refine WC_block ?_
      have hbk : (blk (full l) c).length = 64 := blk_len (by omega)
      rw [show (List.replicate 64 0#8) = cpy 0#8 64 (blk (full l) c) 0 from (cpy_0 _ _ _).symm]
      refine WC_loopK (σ := Nat) (fun k => [(9, .int .i64 ((k : Nat) : Int))]) (fun k => [arr (some b8) 64 1 28 (eU .u8 (w := 8)) (cpy 0#8 64 (blk (full l) c) k)]) (fun k => k ≤ 64) (fun k => 64 - k) (0) [0, 2, 5, 6, 7, 8, 10, 11, 29, 30, 31, 32, 33, 34, 35, 48, 49, 50, 51, 52, 53, 54, 55, 56, 57, 58, 59, 60, 61, 62, 63, 64, 65, 66, 67, 68, 69, 70, 71, 72, 73, 74, 75, 76] (by repeat (first | exact Kep.nil | apply Kep.drop rfl | apply Kep.keep rfl)) (by (try dsimp only); repeat (first | with_reducible exact Gv.nil | (with_reducible apply Gv.cons; · (repeat (first | with_reducible exact Ext.here | with_reducible apply Ext.there))))) ?_ ?_ Sub.refl ?_
      · omega
      · (try dsimp only); exact (Wk.cons (by first | rfl | (simp only [List.length_append, List.length_cons, List.length_nil, List.length_replicate, Nat.zero_add]; rfl) | (simp; done)) Wk.nil)
      · rintro k hk K20 hK20
        simp only [List.cons_append, List.nil_append]
        have hcl := cpy_len 0#8 hbk hk
        refine WC_seq fun K21 hK21 => ?_
        refine WC_sr fun K22 hK22 => ?_
        refine WL_rd (Rd_move rfl) rfl rfl rfl ?_
        refine WL_rd (Rd_lssN (j := 64) rfl rfl) rfl rfl rfl ?_
        refine WL_end hK22 ?_
        refine WC_cond rfl (fun hc3 => ?_) (fun hc3 => ?_)
        · try simp only [decide_eq_true_eq, decide_eq_false_iff_not, Bool.not_eq_true', Bool.not_eq_false', Bool.not_eq_true, Bool.not_eq_false, Int.not_lt, Int.not_le, Nat.not_lt, Nat.not_le, Decidable.not_not, ne_eq] at hc3
          refine WC_skip ?_
          refine Ps_next hK21 ?_
          refine WC_seq fun K23 hK23 => ?_
          refine WC_block ?_
          refine WC_region ?_
          refine WL_rd (Rd_move rfl) rfl rfl rfl ?_
          refine WL_rd (Rd_move rfl) rfl rfl rfl ?_
          refine WL_rd (Rd_move rfl) rfl rfl rfl ?_
          refine WL_rd (Rd_move rfl) rfl rfl rfl ?_
          refine WL_rd (Rd_addN rfl rfl) rfl rfl rfl ?_
          refine WL_rd (Rd_index _ rfl rfl ud32 sz5) rfl rfl rfl ?_
          refine WL_rd (Rd_loadU rfl tk5) rfl rfl rfl ?_
          refine WL_rd (Rd_ixA _ rfl rfl ud28 sz5) rfl rfl rfl ?_
          refine WL_ac0 (Ac_storeU rfl rfl sz5) rfl rfl ?_
          rintro _ _ rfl
          rw [← blk_at (by omega), cpy_succ 0#8 hbk (by omega)]
          refine WL_nil ?_
          refine Ps_next hK23 ?_
          refine WC_region ?_
          refine WL_rd (Rd_move rfl) rfl rfl rfl ?_
          refine WL_rd (Rd_addN (j := 1) rfl rfl) rfl rfl rfl ?_
          refine WL_rd (Rd_assign rfl) rfl rfl rfl ?_
          refine WL_nil ?_
          refine Ps_wk (by (try simp only [List.cons_append, List.nil_append]); repeat (first | with_reducible exact Wk.nil | refine Wk.cons (by first | rfl | (simp only [List.length_append, List.length_cons, List.length_nil, List.length_replicate, Nat.zero_add]; rfl) | (simp; done)) ?_)) (by (try simp only [List.cons_append, List.nil_append]); repeat (first | with_reducible exact Sub.refl | with_reducible exact Sub.nil | with_reducible refine Sub.cons (by repeat (first | with_reducible exact Ext.here | with_reducible apply Ext.there)) ?_ | with_reducible refine Sub.tail ?_)) (hK20 (k + 1) (by omega) (by omega))
        · try simp only [decide_eq_true_eq, decide_eq_false_iff_not, Bool.not_eq_true', Bool.not_eq_false', Bool.not_eq_true, Bool.not_eq_false, Int.not_lt, Int.not_le, Nat.not_lt, Nat.not_le, Decidable.not_not, ne_eq] at hc3
          obtain rfl : k = 64 := by omega
          rw [cpy_all 0#8 hbk]
          refine WC_exit ?_
          refine Ps_next hK18 ?_
          refine WC_region ?_
          refine WL_rd (Rd_loadW rfl tk25) rfl rfl rfl ?_
          refine WL_rd (Rd_loadW rfl tk28) rfl rfl rfl ?_
          refine WL_ac (Ac_call cf27 rfl (hs := mix_ct)) rfl rfl rfl ?_
          rintro _ _ ⟨⟨⟩, rfl, hA⟩
          simp only [List.cons_append, List.nil_append] at hA
          replace hA := hA.symm
          subst hA
          rw [blkI_succ]
          refine WL_ac0 (Ac_storeW rfl rfl sz25) rfl rfl ?_
          rintro _ _ rfl
          refine WL_nil ?_
          refine Ps_next hK16 ?_
          refine WC_region ?_
          refine WL_rd (Rd_move rfl) rfl rfl rfl ?_
          refine WL_rd (Rd_addN (j := 64) rfl rfl) rfl rfl rfl ?_
          refine WL_rd (Rd_assign rfl) rfl rfl rfl ?_
          refine WL_nil ?_
          refine Ps_wk (by (try simp only [List.cons_append, List.nil_append]); repeat (first | with_reducible exact Wk.nil | refine Wk.cons (by first | rfl | (simp only [List.length_append, List.length_cons, List.length_nil, List.length_replicate, Nat.zero_add]; rfl) | (simp; done)) ?_)) (by (try simp only [List.cons_append, List.nil_append]); repeat (first | with_reducible exact Sub.refl | with_reducible exact Sub.nil | with_reducible refine Sub.cons (by repeat (first | with_reducible exact Ext.here | with_reducible apply Ext.there)) ?_ | with_reducible refine Sub.tail ?_)) (hK13 (c + 1) (by omega) (by omega))
    · try simp only [decide_eq_true_eq, decide_eq_false_iff_not, Bool.not_eq_true', Bool.not_eq_false', Bool.not_eq_true, Bool.not_eq_false, Int.not_lt, Int.not_le, Nat.not_lt, Nat.not_le, Decidable.not_not, ne_eq] at hc2
      obtain rfl : c = ((full l).length / 64) := by omega
      have hbl := blkI_len (full l) ((full l).length / 64)
      refine WC_exit ?_
      refine Ps_next hK11 ?_
      refine WC_sr fun K24 hK24 => ?_
      refine WL_rd (Rd_move rfl) rfl rfl rfl ?_
      refine WL_ac (Ac_bsL (f := fP) (zs := [.slice none 0 0]) (bs := [.slice none 0 0]) [(⟨l, ao, cap2⟩ : Pt)] encP ud27 zr32 sz32 rfl (by rw [Array.toList_map, Array.toList_range]; rfl) (by rfl) (by rfl) (by rfl) (by rfl)) rfl rfl rfl ?_
      rintro _ _ ⟨b52, rfl, rfl⟩
      refine WL_ac (Ac_call cf34 rfl (hs := sum1_ct (l := l) (hS := hS))) rfl rfl rfl ?_
      rintro _ _ ⟨⟨⟩, rfl, hA⟩
      simp only [List.cons_append, List.nil_append] at hA
      replace hA := hA.symm
      subst hA
      refine WL_ac (Ac_allocW (k := .u8) (w := 8) (m := 32) zr42) rfl rfl rfl ?_
      rintro _ _ ⟨b10, rfl, rfl⟩
      refine WL_ac0 (Ac_storeW rfl rfl sz42) rfl rfl ?_
      rintro _ _ rfl
      refine WL_end hK24 ?_
      refine WC_seq fun K25 hK25 => ?_
      refine WC_sr fun K26 hK26 => ?_
      refine WL_rd (Rd_assign rfl) rfl rfl rfl ?_
      refine WL_end hK26 ?_
      refine WC_block ?_
      refine WC_loopK (σ := Nat) (fun i2 => [(11, .int .i64 ((i2 : Nat) : Int))]) (fun i2 => []) (fun i2 => i2 ≤ 32) (fun i2 => 32 - i2) (0) [5, 6, 10, 73, 74, 75, 76] (by repeat (first | exact Kep.nil | apply Kep.drop rfl | apply Kep.keep rfl)) (by (try dsimp only); repeat (first | with_reducible exact Gv.nil | (with_reducible apply Gv.cons; · (repeat (first | with_reducible exact Ext.here | with_reducible apply Ext.there))))) ?_ ?_ Sub.refl ?_
      · omega
      · (try dsimp only); exact (Wk.cons (by first | rfl | (simp only [List.length_append, List.length_cons, List.length_nil, List.length_replicate, Nat.zero_add]; rfl) | (simp; done)) Wk.nil)
      · rintro i2 hi2 K27 hK27
        simp only [List.cons_append, List.nil_append]
        have hbl := blkI_len (full l) ((full l).length / 64)
        refine WC_seq fun K28 hK28 => ?_
        refine WC_sr fun K29 hK29 => ?_
        refine WL_rd (Rd_move rfl) rfl rfl rfl ?_
        refine WL_rd (Rd_lssN (j := 32) rfl rfl) rfl rfl rfl ?_
        refine WL_end hK29 ?_
        refine WC_cond rfl (fun hc4 => ?_) (fun hc4 => ?_)
        · try simp only [decide_eq_true_eq, decide_eq_false_iff_not, Bool.not_eq_true', Bool.not_eq_false', Bool.not_eq_true, Bool.not_eq_false, Int.not_lt, Int.not_le, Nat.not_lt, Nat.not_le, Decidable.not_not, ne_eq] at hc4
          refine WC_skip ?_
          refine Ps_next hK28 ?_
          refine WC_seq fun K30 hK30 => ?_
          refine WC_block ?_
          refine WC_seq fun K31 hK31 => ?_
          refine WC_drawA mix (fun i => ([2, 2, 2, 2, 2, 2, 2, 2, 2, 2, 2, 2, 2, 2, 2] : List Nat).getD i 0) ?_
          refine WJ_takeP 0 rfl (by kernel_rfl) (Rd_move rfl) rfl rfl rfl (hp _ _) ?_
          refine WJ_takeP 1 rfl (by kernel_rfl) (Rd_ixA _ rfl rfl ud42 sz5) rfl rfl rfl (hp _ _) ?_
          refine WJ_tk 2 (Rd_loadU rfl tk5) hp ?_ rfl (by kernel_rfl) rfl rfl rfl
          refine WJ_takeP 3 rfl (by kernel_rfl) (Rd_move rfl) rfl rfl rfl (hp _ _) ?_
          refine WJ_takeP 4 rfl (by kernel_rfl) (Rd_quoN (j := 4) rfl rfl) rfl rfl rfl (hp _ _) ?_
          refine WJ_takeP 5 rfl (by kernel_rfl) (Rd_ixA _ rfl rfl ud25 sz24) rfl rfl rfl (hp _ _) ?_
          refine WJ_tk 6 (Rd_loadU rfl tk24) hp ?_ rfl (by kernel_rfl) rfl rfl rfl
          refine WJ_takeP 7 rfl (by kernel_rfl) (Rd_move rfl) rfl rfl rfl (hp _ _) ?_
          refine WJ_takeP 8 rfl (by kernel_rfl) (Rd_remN (j := 4) rfl rfl) rfl rfl rfl (hp _ _) ?_
          refine WJ_takeP 9 rfl (by kernel_rfl) (Rd_mulN (i := 8) rfl rfl) rfl rfl rfl (hp _ _) ?_
          refine WJ_takeP 10 rfl (by kernel_rfl) (Rd_subN (i := 24) rfl rfl) rfl rfl rfl (hp _ _) ?_
          refine WJ_takeP 11 rfl (by kernel_rfl) (Rd_conv rfl ikd3_44 (r := ((24 - 8 * (i2 % 4) : Nat) : Int)) (wrap_u64n (by omega))) rfl rfl rfl (hp _ _) ?_
          refine WJ_takeP 12 rfl (by kernel_rfl) (Rd_shrU rfl rfl) rfl rfl rfl (hp _ _) ?_
          refine WJ_takeP 13 rfl (by kernel_rfl) (Rd_convU rfl ikd24_5 (h' := uk8)) rfl rfl rfl (hp _ _) ?_
          refine WJ_takeP 14 rfl (by kernel_rfl) (Rd_isF (Rd_neqU (a := (dgM l).getD i2 0#8) (b := (((blkI (full l) ((full l).length / 64)).getD (i2 / 4) 0#32) >>> (24 - 8 * (i2 % 4))).setWidth 8) rfl rfl) (by rw [dgM_eq, putI_at (by omega)]; simp)) rfl rfl rfl (hp _ _) ?_
          refine WJ_done (by kernel_rfl) ?_
          refine Ps_next hK31 ?_
          refine WC_condF rfl ?_
          refine WC_skip ?_
          refine Ps_next hK30 ?_
          refine WC_region ?_
          refine WL_rd (Rd_move rfl) rfl rfl rfl ?_
          refine WL_rd (Rd_addN (j := 1) rfl rfl) rfl rfl rfl ?_
          refine WL_rd (Rd_assign rfl) rfl rfl rfl ?_
          refine WL_nil ?_
          refine Ps_wk (by (try simp only [List.cons_append, List.nil_append]); repeat (first | with_reducible exact Wk.nil | refine Wk.cons (by first | rfl | (simp only [List.length_append, List.length_cons, List.length_nil, List.length_replicate, Nat.zero_add]; rfl) | (simp; done)) ?_)) (by (try simp only [List.cons_append, List.nil_append]); repeat (first | with_reducible exact Sub.refl | with_reducible exact Sub.nil | with_reducible refine Sub.cons (by repeat (first | with_reducible exact Ext.here | with_reducible apply Ext.there)) ?_ | with_reducible refine Sub.tail ?_)) (hK27 (i2 + 1) (by omega) (by omega))
        · try simp only [decide_eq_true_eq, decide_eq_false_iff_not, Bool.not_eq_true', Bool.not_eq_false', Bool.not_eq_true, Bool.not_eq_false, Int.not_lt, Int.not_le, Nat.not_lt, Nat.not_le, Decidable.not_not, ne_eq] at hc4
          obtain rfl : i2 = 32 := by omega
          refine WC_exit ?_
          refine Ps_next hK25 ?_
          refine WC_sr fun K32 hK32 => ?_
          refine WL_rd (Rd_move rfl) rfl rfl rfl ?_
          refine WL_rd (Rd_len rfl rfl ud32) rfl rfl rfl ?_
          refine WL_rd (Rd_remN (j := 64) rfl rfl) rfl rfl rfl ?_
          refine WL_rd (Rd_isT (Rd_eqlN (j := 0) rfl rfl)) rfl rfl rfl ?_
          refine WL_rd (Rd_assign rfl) rfl rfl rfl ?_
          refine WL_end hK32 ?_
          refine WC_ret ?_
          exact hret.go () (Rs1 rfl rfl)
end Go.Proofs.Ythkchjcodibaeaa
