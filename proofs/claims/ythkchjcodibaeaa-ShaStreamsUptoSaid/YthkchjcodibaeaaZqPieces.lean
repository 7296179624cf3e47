/-
  Contracts of functions that the claim reaches, or the logic and the plain laws that they rest on, or the row over them. (Conditions: none beyond the statement.)
-/
import Derived.Test.YthkchjcodibaeaaZqB
set_option linter.all false
namespace Go.Proofs.Ythkchjcodibaeaa
open Go.RowKit Go.SL Go.ShM
set_option maxHeartbeats 1000000
set_option maxRecDepth 20000
set_option linter.all false
theorem sz4 : sz Try.prog 4 = some 1 := by kernel_rfl
theorem ud46 : Try.prog.underlying 46 = some (.slice 4) := by kernel_rfl
theorem size_ct {b : Nat} {M : List B8} {a : Option Nat} {cap : Nat}  : Ct Try.prog 38 [.pointer (some ⟨b, 0, none⟩)] [cl b 68 (hsh (hM M) (sl a (rM M).length cap) (.int .i64 ((M.length : Nat) : Int))), arr a cap 1 5 (eU .u8) (rM M)] (fun _ : Unit => .int .i64 ((M.length : Nat) : Int)) (fun _ => [cl b 68 (hsh (hM M) (sl a (rM M).length cap) (.int .i64 ((M.length : Nat) : Int))), arr a cap 1 5 (eU .u8) (rM M)]) := by
  refine Ct_body (n := 10) Try.func38 rfl rfl rfl fun F w0 Q hret hnorm hp => ?_
  change WC _ _ _ _ _ _ _ (_ :: _ :: F)
  refine WC_sr fun K1 hK1 => ?_
  refine WL_rd (Rd_assign rfl) rfl rfl rfl ?_
  refine WL_end hK1 ?_
  refine WC_seq fun K2 hK2 => ?_
  refine WC_sr fun K3 hK3 => ?_
  refine WL_rd (Rd_move rfl) rfl rfl rfl ?_
  refine WL_ac (Ac_call cf90 rfl (hs := hok_ct)) rfl rfl rfl ?_
  rintro _ _ ⟨⟨⟩, rfl, hA⟩
  simp only [List.cons_append, List.nil_append] at hA
  replace hA := hA.symm
  subst hA
  refine WL_rd (Rd_not rfl) rfl rfl rfl ?_
  refine WL_end hK3 ?_
  refine WC_condF rfl ?_
  refine WC_skip ?_
  refine Ps_next hK2 ?_
  refine WC_sr fun K4 hK4 => ?_
  refine WL_rd (Rd_move rfl) rfl rfl rfl ?_
  refine WL_rd (Rd_nilCheck rfl) rfl rfl rfl ?_
  refine WL_rd (Rd_fieldAddr rfl fo68_3) rfl rfl rfl ?_
  refine WL_rd (Rd_load rfl tk3 (v := .int .i64 ((M.length : Nat) : Int))) rfl rfl rfl ?_
  refine WL_rd (Rd_assign rfl) rfl rfl rfl ?_
  refine WL_end hK4 ?_
  refine WC_ret ?_
  exact hret.go () (Rs1 rfl rfl)

theorem Pieces_ct {X : Asn} {v : Value} {ps : List Pt} {ao : Option Addr} {cap2 : Nat} {v1 : Value} {bs : List Bool} {ao1 : Option Addr} {cap1 : Nat} (hS : Sv [X] v 1 fP ps ao cap2 := by assumption) (hP : ∀ p ∈ ps, RdP [X] p := by assumption) (hn : (joinP ps).length ≤ 900000000000 := by omega) (hk : ps.length ≤ 900000000000 := by omega) (hB : Sv [X] v1 1 eBool bs ao1 cap1 := by assumption) : Ct Try.prog 7 [v, v1] [X] (fun _ : Unit => .bool true) (fun _ => [X]) := by
  refine Ct_body (n := 71) Try.func7 rfl rfl rfl fun F w0 Q hret hnorm hp => ?_
  change WC _ _ _ _ _ _ _ (_ :: F)
  refine WC_sr fun K1 hK1 => ?_
  refine WL_rd (Rd_assign rfl) rfl rfl rfl ?_
  refine WL_end hK1 ?_
  refine WC_seq fun K2 hK2 => ?_
  refine WC_sr fun K3 hK3 => ?_
  refine WL_ac (Ac_call cf24 rfl (hs := lives_ct)) rfl rfl rfl ?_
  rintro _ _ ⟨⟨⟩, rfl, hA⟩
  simp only [List.cons_append, List.nil_append] at hA
  replace hA := hA.symm
  subst hA
  refine WL_rd (Rd_not rfl) rfl rfl rfl ?_
  refine WL_end hK3 ?_
  refine WC_condF rfl ?_
  refine WC_skip ?_
  refine Ps_next hK2 ?_
  refine WC_sr fun K4 hK4 => ?_
  refine WL_ac (Ac_call cf35 rfl (hs := new_ct)) rfl rfl rfl ?_
  rintro _ _ ⟨b10, rfl, hA⟩
  simp only [List.cons_append, List.nil_append] at hA
  replace hA := hA.symm
  subst hA
  refine WL_rd (Rd_assign rfl) rfl rfl rfl ?_
  refine WL_end hK4 ?_
  refine WC_seq fun K5 hK5 => ?_
  refine WC_sr fun K6 hK6 => ?_
  refine WL_rd (Rd_move rfl) rfl rfl rfl ?_
  refine WL_rd (Rd_peq rfl rfl ud47) rfl rfl rfl ?_
  refine WL_end hK6 ?_
  refine WC_condF rfl ?_
  refine WC_skip ?_
  refine Ps_next hK5 ?_
  refine WC_sr fun K7 hK7 => ?_
  refine WL_rd (Rd_assign (v := sl none 0 0) rfl) rfl rfl rfl ?_
  refine WL_nilarr (eU .u8 (w := 8)) 1 5 ?_
  refine WL_end hK7 ?_
  refine WC_seq fun K8 hK8 => ?_
  refine WC_sr fun K9 hK9 => ?_
  refine WL_rd (Rd_assign rfl) rfl rfl rfl ?_
  refine WL_end hK9 ?_
  refine WC_block ?_
  rw [show ([] : List B8) = joinP (ps.take 0) from rfl]
  refine WC_loopK (σ := Nat × (Option Nat) × Nat × (Option Nat) × Nat) (fun ⟨i', a, cap, a2, c2⟩ => [(6, sl a2 (joinP (ps.take i')).length c2), (7, .int .i64 ((i' : Nat) : Int))]) (fun ⟨i', a, cap, a2, c2⟩ => [cl b10 68 (hsh (hM (joinP (ps.take i'))) (sl a (rM (joinP (ps.take i'))).length cap) (.int .i64 (((joinP (ps.take i')).length : Nat) : Int))), arr a cap 1 5 (eU .u8) (rM (joinP (ps.take i'))), arr a2 c2 1 5 (eU .u8) (joinP (ps.take i'))]) (fun ⟨i', a, cap, a2, c2⟩ => i' ≤ ps.length) (fun ⟨i', a, cap, a2, c2⟩ => ps.length - i') ⟨0, none, 0, none, 0⟩ [0, 1, 5, 50, 51, 52, 53, 54, 55, 56, 57, 58, 59, 60, 61, 62, 63, 64, 65, 66, 67, 68, 69, 70] (by repeat (first | exact Kep.nil | apply Kep.drop rfl | apply Kep.keep rfl)) (by (try dsimp only); repeat (first | with_reducible exact Gv.nil | (with_reducible apply Gv.cons; · (repeat (first | with_reducible exact Ext.here | with_reducible apply Ext.there))))) ?_ ?_ Sub.refl ?_
  · exact Nat.zero_le _
  · (try dsimp only); exact (Wk.cons (by first | rfl | (simp only [List.length_append, List.length_cons, List.length_nil, List.length_replicate, Nat.zero_add]; rfl) | (simp; done)) (Wk.cons (by first | rfl | (simp only [List.length_append, List.length_cons, List.length_nil, List.length_replicate, Nat.zero_add]; rfl) | (simp; done)) Wk.nil))
  · rintro ⟨i', a, cap, a2, c2⟩ hi K10 hK10
    simp only [List.cons_append, List.nil_append]
    refine WC_seq fun K11 hK11 => ?_
    refine WC_sr fun K12 hK12 => ?_
    refine WL_rd (Rd_move rfl) rfl rfl rfl ?_
    refine WL_rd (Rd_move rfl) rfl rfl rfl ?_
    refine WL_rd (Rd_len_sv rfl rfl ud27) rfl rfl rfl ?_
    refine WL_rd (Rd_lssN rfl rfl) rfl rfl rfl ?_
    refine WL_end hK12 ?_
    refine WC_cond rfl (fun hc2 => ?_) (fun hc2 => ?_)
    · try simp only [decide_eq_true_eq, decide_eq_false_iff_not, Bool.not_eq_true', Bool.not_eq_false', Bool.not_eq_true, Bool.not_eq_false, Int.not_lt, Int.not_le, Nat.not_lt, Nat.not_le, Decidable.not_not, ne_eq] at hc2
      obtain ⟨p, hp⟩ : ∃ p, ps[i']? = some p := ⟨_, List.getElem?_eq_getElem (by omega)⟩
      have hpS : Sv [X] p.v 1 (eU .u8 (w := 8)) p.l p.ao p.cap := hP p (List.mem_of_getElem? hp)
      have hpl := joinP_len hp
      have hle := joinP_le ps (i' + 1)
      refine WC_skip ?_
      refine Ps_next hK11 ?_
      refine WC_seq fun K13 hK13 => ?_
      refine WC_block ?_
      refine WC_seq fun K14 hK14 => ?_
      refine WC_sr fun K15 hK15 => ?_
      refine WL_rd (Rd_move rfl) rfl rfl rfl ?_
      refine WL_rd (Rd_move rfl) rfl rfl rfl ?_
      refine WL_rd (Rd_move rfl) rfl rfl rfl ?_
      refine WL_rd (Rd_index_sv i' rfl rfl ud27 sz32 (hA := hS) (hi := by omega)) rfl rfl rfl ?_
      refine WL_rd (Rd_load_sv (i := i') (j := 0) rfl tk32 (hA := hS) (hl := hp)) rfl rfl rfl ?_
      refine WL_ac (Ac_call cf36 rfl (hs := write_ct (M := joinP (ps.take i')) (hS := hpS))) rfl rfl rfl ?_
      rintro _ _ ⟨⟨a24, cap24⟩, rfl, hA⟩
      simp only [List.cons_append, List.nil_append] at hA
      replace hA := hA.symm
      subst hA
      rw [joinP_take hp]
      refine WL_rd (Rd_neqN (i := 0) (j := 0) rfl rfl) rfl rfl rfl ?_
      refine WL_end hK15 ?_
      refine WC_condF rfl ?_
      refine WC_skip ?_
      refine Ps_next hK14 ?_
      refine WC_sr fun K16 hK16 => ?_
      refine WL_rd (Rd_move rfl) rfl rfl rfl ?_
      refine WL_rd (Rd_move rfl) rfl rfl rfl ?_
      refine WL_rd (Rd_move rfl) rfl rfl rfl ?_
      refine WL_rd (Rd_index_sv i' rfl rfl ud27 sz32 (hA := hS) (hi := by omega)) rfl rfl rfl ?_
      refine WL_rd (Rd_load_sv (i := i') (j := 0) rfl tk32 (hA := hS) (hl := hp)) rfl rfl rfl ?_
      refine WL_ac (Ac_appendS (f := (eU .u8 (w := 8))) (encU .u8) rfl rfl ud32 ud32 el5 (hS := hpS)) rfl rfl rfl ?_
      rintro _ _ ⟨a31, cap31, rfl, rfl⟩
      rw [hpl, joinP_take hp]
      refine WL_rd (Rd_assign rfl) rfl rfl rfl ?_
      refine WL_end hK16 ?_
      refine WC_sr fun K17 hK17 => ?_
      refine WL_rd (Rd_move rfl) rfl rfl rfl ?_
      refine WL_rd (Rd_move rfl) rfl rfl rfl ?_
      refine WL_rd (Rd_len_sv rfl rfl ud46 (hA := hB)) rfl rfl rfl ?_
      refine WL_rd (Rd_lssN rfl rfl) rfl rfl rfl ?_
      refine WL_rd (Rd_move rfl) rfl rfl rfl ?_
      refine WL_bool 36 rfl (fun hg18 => ?_) (fun hg18 => ?_)
      · try simp only [decide_eq_true_eq, decide_eq_false_iff_not, Bool.not_eq_true', Bool.not_eq_false', Bool.not_eq_true, Bool.not_eq_false, Int.not_lt, Int.not_le, Nat.not_lt, Nat.not_le, Decidable.not_not, ne_eq] at hg18
        obtain ⟨bq, hbq⟩ : ∃ bq, bs[i']? = some bq := ⟨_, List.getElem?_eq_getElem (by omega)⟩
        refine WL_rd (Rd_move rfl) rfl rfl rfl ?_
        refine WL_rd (Rd_move rfl) rfl rfl rfl ?_
        refine WL_rd (Rd_index_sv i' rfl rfl ud46 sz4 (hA := hB) (hi := by omega)) rfl rfl rfl ?_
        refine WL_rd (Rd_load_sv (i := i') (j := 0) rfl tk4 (hA := hB) (hl := hbq)) rfl rfl rfl ?_
        refine WL_rd (Rd_pickT rfl rfl) rfl rfl rfl ?_
        refine WL_rd (Rd_move rfl) rfl rfl rfl ?_
        refine WL_bool 42 rfl (fun hg19 => ?_) (fun hg19 => ?_)
        · try simp only [decide_eq_true_eq, decide_eq_false_iff_not, Bool.not_eq_true', Bool.not_eq_false', Bool.not_eq_true, Bool.not_eq_false, Int.not_lt, Int.not_le, Nat.not_lt, Nat.not_le, Decidable.not_not, ne_eq] at hg19
          refine WL_rd (Rd_move rfl) rfl rfl rfl ?_
          refine WL_ac (Ac_call cf37 rfl (hs := hsum_ct (M := (joinP (ps.take (i' + 1)))))) rfl rfl rfl ?_
          rintro _ _ ⟨⟨⟩, rfl, hA⟩
          simp only [List.cons_append, List.nil_append] at hA
          replace hA := hA.symm
          subst hA
          refine WL_rd (Rd_move rfl) rfl rfl rfl ?_
          refine WL_ac (Ac_bsL (f := fP) (zs := [.slice none 0 0]) (bs := [.slice none 0 0]) [(⟨(joinP (ps.take (i' + 1))), a31.map (fun g => ⟨g, 0, none⟩), cap31⟩ : Pt)] encP ud27 zr32 sz32 rfl (by rw [Array.toList_map, Array.toList_range]; rfl) (by rfl) (by rfl) (by rfl) (by rfl)) rfl rfl rfl ?_
          rintro _ _ ⟨b46, rfl, rfl⟩
          refine WL_fact (fun w h => arr_facts (a := a31) (cap := cap31) (e := 1) (T := 5) (f := eU .u8 (w := 8)) (l := (joinP (ps.take (i' + 1)))) (by repeat (first | with_reducible exact Has.here | with_reducible refine Has.there ?_)) h) (fun hSwf => ?_)
          have hSw : Sv [arr a31 cap31 1 5 (eU .u8) (joinP (ps.take (i' + 1)))] (sl a31 (joinP (ps.take (i' + 1))).length cap31) 1 (eU .u8 (w := 8)) (joinP (ps.take (i' + 1))) (a31.map fun g => ⟨g, 0, none⟩) cap31 := Sv_own' (encU .u8 (w := 8)) hSwf.1 hSwf.2
          have hdl := dgM_len (joinP (ps.take (i' + 1)))
          refine WL_ac (Ac_call cf34 rfl (hs := sum1_ct (X := arr a31 cap31 1 5 (eU .u8) (joinP (ps.take (i' + 1)))) (l := (joinP (ps.take (i' + 1)))) (hS := hSw))) rfl rfl rfl ?_
          rintro _ _ ⟨⟨⟩, rfl, hA⟩
          simp only [List.cons_append, List.nil_append] at hA
          replace hA := hA.symm
          subst hA
          refine WL_rd (Rd_isF (Rd_neW rfl rfl ais42) (by simp)) rfl rfl rfl ?_
          refine WL_rd (Rd_pickT rfl rfl) rfl rfl rfl ?_
          refine WL_end hK17 ?_
          refine WC_condF rfl ?_
          refine WC_skip ?_
          refine Ps_next hK13 ?_
          refine WC_region ?_
          refine WL_rd (Rd_move rfl) rfl rfl rfl ?_
          refine WL_rd (Rd_addN (j := 1) rfl rfl) rfl rfl rfl ?_
          refine WL_rd (Rd_assign rfl) rfl rfl rfl ?_
          refine WL_nil ?_
          refine Ps_wk (by (try simp only [List.cons_append, List.nil_append]); repeat (first | with_reducible exact Wk.nil | refine Wk.cons (by first | rfl | (simp only [List.length_append, List.length_cons, List.length_nil, List.length_replicate, Nat.zero_add]; rfl) | (simp; done)) ?_)) (by (try simp only [List.cons_append, List.nil_append]); repeat (first | with_reducible exact Sub.refl | with_reducible exact Sub.nil | with_reducible refine Sub.cons (by repeat (first | with_reducible exact Ext.here | with_reducible apply Ext.there)) ?_ | with_reducible refine Sub.tail ?_)) (hK10 ⟨i' + 1, a24, cap24, a31, cap31⟩ (by dsimp only; omega) (by dsimp only; omega))
        · try simp only [decide_eq_true_eq, decide_eq_false_iff_not, Bool.not_eq_true', Bool.not_eq_false', Bool.not_eq_true, Bool.not_eq_false, Int.not_lt, Int.not_le, Nat.not_lt, Nat.not_le, Decidable.not_not, ne_eq] at hg19
          refine WL_skip rfl rfl rfl ?_
          refine WL_skip rfl rfl rfl ?_
          refine WL_skip rfl rfl rfl ?_
          refine WL_skip rfl rfl rfl ?_
          refine WL_fact (fun w h => arr_facts (a := a31) (cap := cap31) (e := 1) (T := 5) (f := eU .u8 (w := 8)) (l := (joinP (ps.take (i' + 1)))) (by repeat (first | with_reducible exact Has.here | with_reducible refine Has.there ?_)) h) (fun hSwf => ?_)
          have hSw : Sv [arr a31 cap31 1 5 (eU .u8) (joinP (ps.take (i' + 1)))] (sl a31 (joinP (ps.take (i' + 1))).length cap31) 1 (eU .u8 (w := 8)) (joinP (ps.take (i' + 1))) (a31.map fun g => ⟨g, 0, none⟩) cap31 := Sv_own' (encU .u8 (w := 8)) hSwf.1 hSwf.2
          have hdl := dgM_len (joinP (ps.take (i' + 1)))
          refine WL_skip rfl rfl rfl ?_
          refine WL_skip rfl rfl rfl ?_
          refine WL_rd (Rd_pickF rfl rfl) rfl rfl rfl ?_
          refine WL_end hK17 ?_
          refine WC_condF rfl ?_
          refine WC_skip ?_
          refine Ps_next hK13 ?_
          refine WC_region ?_
          refine WL_rd (Rd_move rfl) rfl rfl rfl ?_
          refine WL_rd (Rd_addN (j := 1) rfl rfl) rfl rfl rfl ?_
          refine WL_rd (Rd_assign rfl) rfl rfl rfl ?_
          refine WL_nil ?_
          refine Ps_wk (by (try simp only [List.cons_append, List.nil_append]); repeat (first | with_reducible exact Wk.nil | refine Wk.cons (by first | rfl | (simp only [List.length_append, List.length_cons, List.length_nil, List.length_replicate, Nat.zero_add]; rfl) | (simp; done)) ?_)) (by (try simp only [List.cons_append, List.nil_append]); repeat (first | with_reducible exact Sub.refl | with_reducible exact Sub.nil | with_reducible refine Sub.cons (by repeat (first | with_reducible exact Ext.here | with_reducible apply Ext.there)) ?_ | with_reducible refine Sub.tail ?_)) (hK10 ⟨i' + 1, a24, cap24, a31, cap31⟩ (by dsimp only; omega) (by dsimp only; omega))
      · try simp only [decide_eq_true_eq, decide_eq_false_iff_not, Bool.not_eq_true', Bool.not_eq_false', Bool.not_eq_true, Bool.not_eq_false, Int.not_lt, Int.not_le, Nat.not_lt, Nat.not_le, Decidable.not_not, ne_eq] at hg18
        refine WL_skip rfl rfl rfl ?_
        refine WL_skip rfl rfl rfl ?_
        refine WL_skip rfl rfl rfl ?_
        refine WL_skip rfl rfl rfl ?_
        refine WL_rd (Rd_pickF rfl rfl) rfl rfl rfl ?_
        refine WL_rd (Rd_move rfl) rfl rfl rfl ?_
        refine WL_skip rfl rfl rfl ?_
        refine WL_skip rfl rfl rfl ?_
        refine WL_skip rfl rfl rfl ?_
        refine WL_skip rfl rfl rfl ?_
        refine WL_fact (fun w h => arr_facts (a := a31) (cap := cap31) (e := 1) (T := 5) (f := eU .u8 (w := 8)) (l := (joinP (ps.take (i' + 1)))) (by repeat (first | with_reducible exact Has.here | with_reducible refine Has.there ?_)) h) (fun hSwf => ?_)
        have hSw : Sv [arr a31 cap31 1 5 (eU .u8) (joinP (ps.take (i' + 1)))] (sl a31 (joinP (ps.take (i' + 1))).length cap31) 1 (eU .u8 (w := 8)) (joinP (ps.take (i' + 1))) (a31.map fun g => ⟨g, 0, none⟩) cap31 := Sv_own' (encU .u8 (w := 8)) hSwf.1 hSwf.2
        have hdl := dgM_len (joinP (ps.take (i' + 1)))
        refine WL_skip rfl rfl rfl ?_
        refine WL_skip rfl rfl rfl ?_
        refine WL_rd (Rd_pickF rfl rfl) rfl rfl rfl ?_
        refine WL_end hK17 ?_
        refine WC_condF rfl ?_
        refine WC_skip ?_
        refine Ps_next hK13 ?_
        refine WC_region ?_
        refine WL_rd (Rd_move rfl) rfl rfl rfl ?_
        refine WL_rd (Rd_addN (j := 1) rfl rfl) rfl rfl rfl ?_
        refine WL_rd (Rd_assign rfl) rfl rfl rfl ?_
        refine WL_nil ?_
        refine Ps_wk (by (try simp only [List.cons_append, List.nil_append]); repeat (first | with_reducible exact Wk.nil | refine Wk.cons (by first | rfl | (simp only [List.length_append, List.length_cons, List.length_nil, List.length_replicate, Nat.zero_add]; rfl) | (simp; done)) ?_)) (by (try simp only [List.cons_append, List.nil_append]); repeat (first | with_reducible exact Sub.refl | with_reducible exact Sub.nil | with_reducible refine Sub.cons (by repeat (first | with_reducible exact Ext.here | with_reducible apply Ext.there)) ?_ | with_reducible refine Sub.tail ?_)) (hK10 ⟨i' + 1, a24, cap24, a31, cap31⟩ (by dsimp only; omega) (by dsimp only; omega))
    · try simp only [decide_eq_true_eq, decide_eq_false_iff_not, Bool.not_eq_true', Bool.not_eq_false', Bool.not_eq_true, Bool.not_eq_false, Int.not_lt, Int.not_le, Nat.not_lt, Nat.not_le, Decidable.not_not, ne_eq] at hc2
      obtain rfl : i' = ps.length := by omega
      rw [joinP_all (Nat.le_refl _)]
      refine WC_exit ?_
      refine Ps_next hK8 ?_
      refine WC_sr fun K20 hK20 => ?_
      refine WL_rd (Rd_move rfl) rfl rfl rfl ?_
      refine WL_ac (Ac_call cf37 rfl (hs := hsum_ct (M := joinP ps))) rfl rfl rfl ?_
      rintro _ _ ⟨⟨⟩, rfl, hA⟩
      simp only [List.cons_append, List.nil_append] at hA
      replace hA := hA.symm
      subst hA
      refine WL_rd (Rd_move rfl) rfl rfl rfl ?_
      refine WL_ac (Ac_bsL (f := fP) (zs := [.slice none 0 0]) (bs := [.slice none 0 0]) [(⟨(joinP ps), a2.map (fun g => ⟨g, 0, none⟩), c2⟩ : Pt)] encP ud27 zr32 sz32 rfl (by rw [Array.toList_map, Array.toList_range]; rfl) (by rfl) (by rfl) (by rfl) (by rfl)) rfl rfl rfl ?_
      rintro _ _ ⟨b53, rfl, rfl⟩
      refine WL_fact (fun w h => arr_facts (a := a2) (cap := c2) (e := 1) (T := 5) (f := eU .u8 (w := 8)) (l := (joinP ps)) (by repeat (first | with_reducible exact Has.here | with_reducible refine Has.there ?_)) h) (fun hSwf => ?_)
      have hSw : Sv [arr a2 c2 1 5 (eU .u8) (joinP ps)] (sl a2 (joinP ps).length c2) 1 (eU .u8 (w := 8)) (joinP ps) (a2.map fun g => ⟨g, 0, none⟩) c2 := Sv_own' (encU .u8 (w := 8)) hSwf.1 hSwf.2
      have hdl := dgM_len (joinP ps)
      refine WL_ac (Ac_call cf34 rfl (hs := sum1_ct (X := arr a2 c2 1 5 (eU .u8) (joinP ps)) (l := (joinP ps)) (hS := hSw))) rfl rfl rfl ?_
      rintro _ _ ⟨⟨⟩, rfl, hA⟩
      simp only [List.cons_append, List.nil_append] at hA
      replace hA := hA.symm
      subst hA
      refine WL_rd (Rd_isT (Rd_eqW rfl rfl ais42) (by simp)) rfl rfl rfl ?_
      refine WL_rd (Rd_move rfl) rfl rfl rfl ?_
      refine WL_rd (Rd_move rfl) rfl rfl rfl ?_
      refine WL_ac (Ac_call cf34 rfl (hs := sum_ct (X := X) (ps := ps) (hS := hS) (hP := hP))) rfl rfl rfl ?_
      rintro _ _ ⟨⟨⟩, rfl, hA⟩
      simp only [List.cons_append, List.nil_append] at hA
      replace hA := hA.symm
      subst hA
      refine WL_rd (Rd_move rfl) rfl rfl rfl ?_
      refine WL_ac (Ac_bsL (f := fP) (zs := [.slice none 0 0]) (bs := [.slice none 0 0]) [(⟨(joinP ps), a2.map (fun g => ⟨g, 0, none⟩), c2⟩ : Pt)] encP ud27 zr32 sz32 rfl (by rw [Array.toList_map, Array.toList_range]; rfl) (by rfl) (by rfl) (by rfl) (by rfl)) rfl rfl rfl ?_
      rintro _ _ ⟨b60, rfl, rfl⟩
      refine WL_ac (Ac_call cf34 rfl (hs := sum1_ct (X := arr a2 c2 1 5 (eU .u8) (joinP ps)) (l := (joinP ps)) (hS := hSw))) rfl rfl rfl ?_
      rintro _ _ ⟨⟨⟩, rfl, hA⟩
      simp only [List.cons_append, List.nil_append] at hA
      replace hA := hA.symm
      subst hA
      refine WL_rd (Rd_isT (Rd_eqW rfl rfl ais42) (by simp)) rfl rfl rfl ?_
      refine WL_rd (Rd_pickT rfl rfl) rfl rfl rfl ?_
      refine WL_rd (Rd_move rfl) rfl rfl rfl ?_
      refine WL_rd (Rd_move rfl) rfl rfl rfl ?_
      refine WL_ac (Ac_call cf38 rfl (hs := size_ct (M := joinP ps))) rfl rfl rfl ?_
      rintro _ _ ⟨⟨⟩, rfl, hA⟩
      simp only [List.cons_append, List.nil_append] at hA
      replace hA := hA.symm
      subst hA
      refine WL_rd (Rd_move rfl) rfl rfl rfl ?_
      refine WL_rd (Rd_len rfl rfl ud32) rfl rfl rfl ?_
      refine WL_rd (Rd_isT (Rd_eqlN rfl rfl)) rfl rfl rfl ?_
      refine WL_rd (Rd_pickT rfl rfl) rfl rfl rfl ?_
      refine WL_rd (Rd_assign rfl) rfl rfl rfl ?_
      refine WL_end hK20 ?_
      refine WC_ret ?_
      exact hret.go () (Rs1 rfl rfl)
end Go.Proofs.Ythkchjcodibaeaa
