/-
  Contracts of functions that the claim reaches, or the logic and the plain laws that they rest on, or the row over them. (Conditions: none beyond the statement.)
-/
import Derived.Test.YthkchjcodibaeaaZqTcG
import Derived.Test.YthkchjcodibaeaaShStr
set_option linter.all false
namespace Go.Proofs.Ythkchjcodibaeaa
open Go.RowKit Go.SL Go.ShM
set_option maxHeartbeats 1000000
set_option maxRecDepth 20000
set_option linter.all false
theorem cf66 : cfn Try.prog 66 = true := by kernel_rfl
theorem cf67 : cfn Try.prog 67 = true := by kernel_rfl
theorem cf68 : cfn Try.prog 68 = true := by kernel_rfl
theorem cf69 : cfn Try.prog 69 = true := by kernel_rfl
theorem sz115 : sz Try.prog 115 = some 6 := by kernel_rfl
theorem ud107 : Try.prog.underlying 107 = some (.slice 115) := by kernel_rfl
theorem zr111 : zr Try.prog 111 = some [.slice none 0 0, .slice none 0 0, .slice none 0 0, .slice none 0 0] := by kernel_rfl
theorem Calls_ct {W : World} {v : Value} {qs : List TQ} {ao : Option Addr} {cap2 : Nat} (hS : Sv [old W] v 6 eTQ qs ao cap2 := by assumption) (hQ : ∀ q ∈ qs, OKt W 1048576 q := by assumption) (hn : qs.length ≤ 1048576 := by omega) : Ct Try.prog 18 [v] [old W] (fun _ : Unit => .bool true) (fun _ => [old W]) := by
  refine Ct_body (n := 75) Try.func18 rfl rfl rfl fun F w0 Q hret hnorm hp => ?_
  change WC _ _ _ _ _ _ _ (_ :: F)
  refine WC_sr fun K1 hK1 => ?_
  refine WL_rd (Rd_assign rfl) rfl rfl rfl ?_
  refine WL_end hK1 ?_
  refine WC_seq fun K2 hK2 => ?_
  refine WC_sr fun K3 hK3 => ?_
  refine WL_ac (Ac_call cf53 rfl (hs := trlives_ct)) rfl rfl rfl ?_
  rintro _ _ ⟨⟨⟩, rfl, hA⟩
  simp only [List.cons_append, List.nil_append] at hA
  replace hA := hA.symm
  subst hA
  refine WL_rd (Rd_not rfl) rfl rfl rfl ?_
  refine WL_end hK3 ?_
  refine WC_condF rfl ?_
  refine WC_skip ?_
  refine Ps_next hK2 ?_
  refine WC_sr fun K4 hK4 => ?_
  refine WL_ac (Ac_alloc zr111) rfl rfl rfl ?_
  rintro _ _ ⟨kb, rfl, rfl⟩
  refine WL_end hK4 ?_
  refine WC_seq fun K5 hK5 => ?_
  refine WC_sr fun K6 hK6 => ?_
  refine WL_rd (Rd_assign rfl) rfl rfl rfl ?_
  refine WL_end hK6 ?_
  refine WC_block ?_
  refine WC_star0 (FPD 42) ?_
  refine WC_star0 (FPD 42) ?_
  refine WC_star0 (FP 3) ?_
  refine WC_star0 (FP 3) ?_
  refine WC_imp (fun w h => sat_nil (e := 1) (T := 76) (f := ePD) h) ?_
  refine WC_imp (fun w h => sat_nil (e := 1) (T := 76) (f := ePD) h) ?_
  refine WC_imp (fun w h => sat_nil (e := 1) (T := 101) (f := ePI) h) ?_
  refine WC_imp (fun w h => sat_nil (e := 1) (T := 101) (f := ePI) h) ?_
  rw [show cl kb 111 [.slice none 0 0, .slice none 0 0, .slice none 0 0, .slice none 0 0] = cl kb 111 [sl (⟨[], none, 0, [], none, 0, [], none, 0, [], none, 0⟩ : BKs).pa (⟨[], none, 0, [], none, 0, [], none, 0, [], none, 0⟩ : BKs).ps.length (⟨[], none, 0, [], none, 0, [], none, 0, [], none, 0⟩ : BKs).pc, sl (⟨[], none, 0, [], none, 0, [], none, 0, [], none, 0⟩ : BKs).wa (⟨[], none, 0, [], none, 0, [], none, 0, [], none, 0⟩ : BKs).ws.length (⟨[], none, 0, [], none, 0, [], none, 0, [], none, 0⟩ : BKs).wc, sl (⟨[], none, 0, [], none, 0, [], none, 0, [], none, 0⟩ : BKs).ia (⟨[], none, 0, [], none, 0, [], none, 0, [], none, 0⟩ : BKs).is.length (⟨[], none, 0, [], none, 0, [], none, 0, [], none, 0⟩ : BKs).ic, sl (⟨[], none, 0, [], none, 0, [], none, 0, [], none, 0⟩ : BKs).ma (⟨[], none, 0, [], none, 0, [], none, 0, [], none, 0⟩ : BKs).ms.length (⟨[], none, 0, [], none, 0, [], none, 0, [], none, 0⟩ : BKs).mc] from rfl]
  refine WC_loopK (σ := Nat × BKs) (fun ⟨i', s⟩ => [(4, .int .i64 ((i' : Nat) : Int))]) (fun ⟨i', s⟩ => [cl kb 111 [sl s.pa s.ps.length s.pc, sl s.wa s.ws.length s.wc, sl s.ia s.is.length s.ic, sl s.ma s.ms.length s.mc], star (FPD 42) s.ps, arr s.pa s.pc 1 76 ePD s.ps, star (FPD 42) s.ws, arr s.wa s.wc 1 76 ePD s.ws, star (FP 3) s.is, arr s.ia s.ic 1 101 ePI s.is, star (FP 3) s.ms, arr s.ma s.mc 1 101 ePI s.ms]) (fun ⟨i', s⟩ => i' ≤ qs.length ∧ BK s (2 * i')) (fun ⟨i', s⟩ => qs.length - i') ⟨0, ⟨[], none, 0, [], none, 0, [], none, 0, [], none, 0⟩⟩ [0, 3, 5, 6, 29, 30, 31, 32, 33, 34, 35, 36, 37, 38, 39, 40, 41, 42, 43, 44, 45, 46, 47, 48, 49, 50, 51, 52, 53, 54, 55, 56, 57, 58, 59, 60, 61, 62, 63, 64, 65, 66, 67, 68, 69, 70, 71, 72, 73, 74] (by repeat (first | exact Kep.nil | apply Kep.drop rfl | apply Kep.keep rfl)) (by (try dsimp only); repeat (first | with_reducible exact Gv.nil | (with_reducible apply Gv.cons; · (repeat (first | with_reducible exact Ext.here | with_reducible apply Ext.there))))) ?_ ?_ Sub.refl ?_
  · exact ⟨Nat.zero_le _, BK_0⟩
  · (try dsimp only); exact (Wk.cons (by first | rfl | (simp only [List.length_append, List.length_cons, List.length_nil, List.length_replicate, Nat.zero_add]; rfl) | (simp; done)) Wk.nil)
  · rintro ⟨i', s⟩ ⟨hi, hB⟩ K7 hK7
    simp only [List.cons_append, List.nil_append]
    refine WC_seq fun K8 hK8 => ?_
    refine WC_sr fun K9 hK9 => ?_
    refine WL_rd (Rd_move rfl) rfl rfl rfl ?_
    refine WL_rd (Rd_move rfl) rfl rfl rfl ?_
    refine WL_rd (Rd_len_sv rfl rfl ud107) rfl rfl rfl ?_
    refine WL_rd (Rd_lssN rfl rfl) rfl rfl rfl ?_
    refine WL_end hK9 ?_
    refine WC_cond rfl (fun hc1 => ?_) (fun hc1 => ?_)
    · try simp only [decide_eq_true_eq, decide_eq_false_iff_not, Bool.not_eq_true', Bool.not_eq_false', Bool.not_eq_true, Bool.not_eq_false, Int.not_lt, Int.not_le, Nat.not_lt, Nat.not_le, Decidable.not_not, ne_eq] at hc1
      obtain ⟨q, hqi⟩ := at_i (l := qs) (i := i') (by omega)
      have hqk := hQ q (List.mem_of_getElem? hqi)
      refine WC_skip ?_
      refine Ps_next hK8 ?_
      refine WC_seq fun K10 hK10 => ?_
      refine WC_block ?_
      refine WC_sr fun K11 hK11 => ?_
      refine WL_rd (Rd_move rfl) rfl rfl rfl ?_
      refine WL_rd (Rd_move rfl) rfl rfl rfl ?_
      refine WL_rd (Rd_index_sv i' rfl rfl ud107 sz115 (hA := hS) (hi := by omega)) rfl rfl rfl ?_
      refine WL_rd (Rd_loadg_sv (f := eTQ) (i := i') rfl tk115 (hA := hS) (hl := hqi)) rfl rfl rfl ?_
      refine WL_ac (Ac_call cf66 rfl (hs := ask_ct (W := W) (kb := kb) (n := 2 * i') (s := s) (q := q) (hB := hB) (hq := hqk))) rfl rfl rfl ?_
      rintro _ _ ⟨⟨g, hg⟩, rfl, hA⟩
      simp only [List.cons_append, List.nil_append] at hA
      replace hA := hA.symm
      subst hA
      try dsimp only
      refine WL_rd (Rd_not rfl) rfl rfl rfl ?_
      refine WL_rd (Rd_move rfl) rfl rfl rfl ?_
      refine WL_rd (Rd_move rfl) rfl rfl rfl ?_
      refine WL_rd (Rd_move rfl) rfl rfl rfl ?_
      refine WL_rd (Rd_index_sv i' rfl rfl ud107 sz115 (hA := hS) (hi := by omega)) rfl rfl rfl ?_
      refine WL_rd (Rd_loadg_sv (f := eTQ) (i := i') rfl tk115 (hA := hS) (hl := hqi)) rfl rfl rfl ?_
      refine WL_ac (Ac_call cf66 rfl (hs := ask_ct (W := W) (kb := kb) (n := 2 * i' + 1) (s := g) (q := q) (hB := hg) (hq := hqk))) rfl rfl rfl ?_
      rintro _ _ ⟨⟨g2, hg2⟩, rfl, hA⟩
      simp only [List.cons_append, List.nil_append] at hA
      replace hA := hA.symm
      subst hA
      try dsimp only
      refine WL_rd (Rd_not rfl) rfl rfl rfl ?_
      refine WL_rd (Rd_pickF rfl rfl) rfl rfl rfl ?_
      refine WL_end hK11 ?_
      refine WC_condF rfl ?_
      refine WC_skip ?_
      refine Ps_next hK10 ?_
      refine WC_region ?_
      refine WL_rd (Rd_move rfl) rfl rfl rfl ?_
      refine WL_rd (Rd_addN (j := 1) rfl rfl) rfl rfl rfl ?_
      refine WL_rd (Rd_assign rfl) rfl rfl rfl ?_
      refine WL_nil ?_
      refine Ps_wk (by (try simp only [List.cons_append, List.nil_append]); repeat (first | with_reducible exact Wk.nil | refine Wk.cons (by first | rfl | (simp only [List.length_append, List.length_cons, List.length_nil, List.length_replicate, Nat.zero_add]; rfl) | (simp; done)) ?_)) (by (try simp only [List.cons_append, List.nil_append]); repeat (first | with_reducible exact Sub.refl | with_reducible exact Sub.nil | with_reducible refine Sub.cons (by repeat (first | with_reducible exact Ext.here | with_reducible apply Ext.there)) ?_ | with_reducible refine Sub.tail ?_)) (hK7 ⟨i' + 1, g2⟩ (⟨by (try dsimp only); omega, hg2⟩) (by (try dsimp only); omega))
    · try simp only [decide_eq_true_eq, decide_eq_false_iff_not, Bool.not_eq_true', Bool.not_eq_false', Bool.not_eq_true, Bool.not_eq_false, Int.not_lt, Int.not_le, Nat.not_lt, Nat.not_le, Decidable.not_not, ne_eq] at hc1
      have hlD := hB.lenD
      have hlI := hB.lenI
      have hlp := hB.lD
      have hli := hB.lI
      refine WC_fact (fun w h => arr_facts (a := s.pa) (cap := s.pc) (e := 1) (T := 76) (f := ePD) (l := s.ps) (by repeat (first | with_reducible exact Has.here | with_reducible refine Has.there ?_)) h) (fun hSpf => ?_)
      have hSp : Sv [arr s.pa s.pc 1 76 ePD s.ps] (sl s.pa s.ps.length s.pc) 1 ePD s.ps (s.pa.map fun g => ⟨g, 0, none⟩) s.pc := Sv_own' encPD hSpf.1 hSpf.2
      refine WC_fact (fun w h => arr_facts (a := s.wa) (cap := s.wc) (e := 1) (T := 76) (f := ePD) (l := s.ws) (by repeat (first | with_reducible exact Has.here | with_reducible refine Has.there ?_)) h) (fun hSwf => ?_)
      have hSw : Sv [arr s.wa s.wc 1 76 ePD s.ws] (sl s.wa s.ws.length s.wc) 1 ePD s.ws (s.wa.map fun g => ⟨g, 0, none⟩) s.wc := Sv_own' encPD hSwf.1 hSwf.2
      refine WC_fact (fun w h => arr_facts (a := s.ia) (cap := s.ic) (e := 1) (T := 101) (f := ePI) (l := s.is) (by repeat (first | with_reducible exact Has.here | with_reducible refine Has.there ?_)) h) (fun hSif => ?_)
      have hSi : Sv [arr s.ia s.ic 1 101 ePI s.is] (sl s.ia s.is.length s.ic) 1 ePI s.is (s.ia.map fun g => ⟨g, 0, none⟩) s.ic := Sv_own' encPI hSif.1 hSif.2
      refine WC_fact (fun w h => arr_facts (a := s.ma) (cap := s.mc) (e := 1) (T := 101) (f := ePI) (l := s.ms) (by repeat (first | with_reducible exact Has.here | with_reducible refine Has.there ?_)) h) (fun hSmf => ?_)
      have hSm : Sv [arr s.ma s.mc 1 101 ePI s.ms] (sl s.ma s.ms.length s.mc) 1 ePI s.ms (s.ma.map fun g => ⟨g, 0, none⟩) s.mc := Sv_own' encPI hSmf.1 hSmf.2
      refine WC_exit ?_
      refine Ps_next hK5 ?_
      refine WC_seq fun K12 hK12 => ?_
      refine WC_sr fun K13 hK13 => ?_
      refine WL_rd (Rd_assign rfl) rfl rfl rfl ?_
      refine WL_end hK13 ?_
      refine WC_block ?_
      refine WC_loopK (σ := Nat) (fun j => [(5, .int .i64 ((j : Nat) : Int))]) (fun j => []) (fun j => j ≤ s.ps.length) (fun j => s.ps.length - j) (0) [3, 6, 48, 49, 50, 51, 52, 53, 54, 55, 56, 57, 58, 59, 60, 61, 62, 63, 64, 65, 66, 67, 68, 69, 70, 71, 72, 73, 74] (by repeat (first | exact Kep.nil | apply Kep.drop rfl | apply Kep.keep rfl)) (by (try dsimp only); repeat (first | with_reducible exact Gv.nil | (with_reducible apply Gv.cons; · (repeat (first | with_reducible exact Ext.here | with_reducible apply Ext.there))))) ?_ ?_ Sub.refl ?_
      · exact Nat.zero_le _
      · (try dsimp only); exact (Wk.cons (by first | rfl | (simp only [List.length_append, List.length_cons, List.length_nil, List.length_replicate, Nat.zero_add]; rfl) | (simp; done)) Wk.nil)
      · rintro j hj K14 hK14
        simp only [List.cons_append, List.nil_append]
        refine WC_seq fun K15 hK15 => ?_
        refine WC_sr fun K16 hK16 => ?_
        refine WL_rd (Rd_move rfl) rfl rfl rfl ?_
        refine WL_rd (Rd_fieldAddr rfl fo111_0) rfl rfl rfl ?_
        refine WL_rd (Rd_load rfl tk108 (v := sl s.pa s.ps.length s.pc)) rfl rfl rfl ?_
        refine WL_rd (Rd_len rfl rfl ud108) rfl rfl rfl ?_
        refine WL_rd (Rd_lssN rfl rfl) rfl rfl rfl ?_
        refine WL_end hK16 ?_
        refine WC_cond rfl (fun hc3 => ?_) (fun hc3 => ?_)
        · try simp only [decide_eq_true_eq, decide_eq_false_iff_not, Bool.not_eq_true', Bool.not_eq_false', Bool.not_eq_true, Bool.not_eq_false, Int.not_lt, Int.not_le, Nat.not_lt, Nat.not_le, Decidable.not_not, ne_eq] at hc3
          obtain ⟨p, hpp⟩ := at_i (l := s.ps) (i := j) (by omega)
          obtain ⟨p2, hp2⟩ := at_i (l := s.ws) (i := j) (by omega)
          have hpb := (hB.dp p (List.mem_of_getElem? hpp)).2.2
          refine WC_skip ?_
          refine Ps_next hK15 ?_
          refine WC_seq fun K17 hK17 => ?_
          refine WC_block ?_
          refine WC_seq fun K18 hK18 => ?_
          refine WC_drawA mix (fun i => ([2, 2, 2, 2, 2, 2, 2, 2, 2, 2, 1, 2] : List Nat).getD i 0) ?_
          refine WJ_takeP 0 rfl (by kernel_rfl) (Rd_fieldAddr rfl fo111_0) rfl rfl rfl (hp _ _) ?_
          refine WJ_tk 1 (Rd_load rfl tk108 (v := sl s.pa s.ps.length s.pc)) hp ?_ rfl (by kernel_rfl) rfl rfl rfl
          refine WJ_takeP 2 rfl (by kernel_rfl) (Rd_move rfl) rfl rfl rfl (hp _ _) ?_
          refine WJ_takeP 3 rfl (by kernel_rfl) (Rd_index_sv j rfl rfl ud108 sz76 (hA := hSp) (hi := by omega)) rfl rfl rfl (hp _ _) ?_
          refine WJ_tk 4 (Rd_load_sv (f := ePD) (i := j) (j := 0) (u := sl p.a p.l.length p.cap) rfl tk76 (hA := hSp) (hl := hpp)) hp ?_ rfl (by kernel_rfl) rfl rfl rfl
          refine WJ_takeP 5 rfl (by kernel_rfl) (Rd_fieldAddr rfl fo111_1) rfl rfl rfl (hp _ _) ?_
          refine WJ_tk 6 (Rd_load rfl tk108 (v := sl s.wa s.ws.length s.wc)) hp ?_ rfl (by kernel_rfl) rfl rfl rfl
          refine WJ_takeP 7 rfl (by kernel_rfl) (Rd_move rfl) rfl rfl rfl (hp _ _) ?_
          refine WJ_takeP 8 rfl (by kernel_rfl) (Rd_index_sv j rfl rfl ud108 sz76 (hA := hSw) (hi := by omega)) rfl rfl rfl (hp _ _) ?_
          refine WJ_tk 9 (Rd_load_sv (f := ePD) (i := j) (j := 0) (u := sl p2.a p2.l.length p2.cap) rfl tk76 (hA := hSw) (hl := hp2)) hp ?_ rfl (by kernel_rfl) rfl rfl rfl
          refine WJ_all (rs := [10]) (by kernel_rfl) rfl ?_
          refine WI_one ?_
          refine WI_ac rfl (Ac_call cf56 rfl (hs := Ct.un0 (Xs := [star (FPD 42) s.ps, star (FPD 42) s.ws]) (sameD_ct (X := sep [star (FPD 42) s.ps, star (FPD 42) s.ws]) (l := p.l) (l' := p2.l) (hS := (Rd_ptD hB.dp hpp).pk (by repeat (first | with_reducible exact Has.here | with_reducible refine Has.there ?_))) (hS' := (Rd_ptD hB.dw hp2).pk (by repeat (first | with_reducible exact Has.here | with_reducible refine Has.there ?_)))))) rfl rfl rfl rfl ?_
          rintro _ _ ⟨⟨⟩, rfl, hA⟩
          simp only [List.cons_append, List.nil_append] at hA
          replace hA := hA.symm
          subst hA
          rw [decide_eq_true (hB.atD hpp hp2)]
          refine ⟨(fun _ => (by repeat (first | with_reducible exact Sub.refl | with_reducible exact Sub.nil | with_reducible refine Sub.cons (by repeat (first | with_reducible exact Ext.here | with_reducible apply Ext.there)) ?_ | with_reducible refine Sub.tail ?_))), ?_⟩
          refine WJ_takeP 11 rfl (by kernel_rfl) (Rd_not rfl) rfl rfl rfl (hp _ _) ?_
          refine WJ_done (by kernel_rfl) ?_
          refine Ps_next hK18 ?_
          refine WC_condF rfl ?_
          refine WC_skip ?_
          refine Ps_next hK17 ?_
          refine WC_region ?_
          refine WL_rd (Rd_move rfl) rfl rfl rfl ?_
          refine WL_rd (Rd_addN (j := 1) rfl rfl) rfl rfl rfl ?_
          refine WL_rd (Rd_assign rfl) rfl rfl rfl ?_
          refine WL_nil ?_
          refine Ps_wk (by (try simp only [List.cons_append, List.nil_append]); repeat (first | with_reducible exact Wk.nil | refine Wk.cons (by first | rfl | (simp only [List.length_append, List.length_cons, List.length_nil, List.length_replicate, Nat.zero_add]; rfl) | (simp; done)) ?_)) (by (try simp only [List.cons_append, List.nil_append]); repeat (first | with_reducible exact Sub.refl | with_reducible exact Sub.nil | with_reducible refine Sub.cons (by repeat (first | with_reducible exact Ext.here | with_reducible apply Ext.there)) ?_ | with_reducible refine Sub.tail ?_)) (hK14 (j + 1) (by omega) (by omega))
        · try simp only [decide_eq_true_eq, decide_eq_false_iff_not, Bool.not_eq_true', Bool.not_eq_false', Bool.not_eq_true, Bool.not_eq_false, Int.not_lt, Int.not_le, Nat.not_lt, Nat.not_le, Decidable.not_not, ne_eq] at hc3
          refine WC_exit ?_
          refine Ps_next hK12 ?_
          refine WC_seq fun K19 hK19 => ?_
          refine WC_sr fun K20 hK20 => ?_
          refine WL_rd (Rd_assign rfl) rfl rfl rfl ?_
          refine WL_end hK20 ?_
          refine WC_block ?_
          refine WC_loopK (σ := Nat) (fun j => [(6, .int .i64 ((j : Nat) : Int))]) (fun j => []) (fun j => j ≤ s.is.length) (fun j => s.is.length - j) (0) [3, 67, 68, 69, 70, 71, 72, 73, 74] (by repeat (first | exact Kep.nil | apply Kep.drop rfl | apply Kep.keep rfl)) (by (try dsimp only); repeat (first | with_reducible exact Gv.nil | (with_reducible apply Gv.cons; · (repeat (first | with_reducible exact Ext.here | with_reducible apply Ext.there))))) ?_ ?_ Sub.refl ?_
          · exact Nat.zero_le _
          · (try dsimp only); exact (Wk.cons (by first | rfl | (simp only [List.length_append, List.length_cons, List.length_nil, List.length_replicate, Nat.zero_add]; rfl) | (simp; done)) Wk.nil)
          · rintro j hj K21 hK21
            simp only [List.cons_append, List.nil_append]
            refine WC_seq fun K22 hK22 => ?_
            refine WC_sr fun K23 hK23 => ?_
            refine WL_rd (Rd_move rfl) rfl rfl rfl ?_
            refine WL_rd (Rd_fieldAddr rfl fo111_2) rfl rfl rfl ?_
            refine WL_rd (Rd_load rfl tk109 (v := sl s.ia s.is.length s.ic)) rfl rfl rfl ?_
            refine WL_rd (Rd_len rfl rfl ud109) rfl rfl rfl ?_
            refine WL_rd (Rd_lssN rfl rfl) rfl rfl rfl ?_
            refine WL_end hK23 ?_
            refine WC_cond rfl (fun hc5 => ?_) (fun hc5 => ?_)
            · try simp only [decide_eq_true_eq, decide_eq_false_iff_not, Bool.not_eq_true', Bool.not_eq_false', Bool.not_eq_true, Bool.not_eq_false, Int.not_lt, Int.not_le, Nat.not_lt, Nat.not_le, Decidable.not_not, ne_eq] at hc5
              obtain ⟨p, hpp⟩ := at_i (l := s.is) (i := j) (by omega)
              obtain ⟨p2, hp2⟩ := at_i (l := s.ms) (i := j) (by omega)
              have hpb := (hB.ip p (List.mem_of_getElem? hpp)).2.2
              refine WC_skip ?_
              refine Ps_next hK22 ?_
              refine WC_seq fun K24 hK24 => ?_
              refine WC_block ?_
              refine WC_seq fun K25 hK25 => ?_
              refine WC_drawA mix (fun i => ([2, 2, 2, 2, 2, 2, 2, 2, 2, 2, 1, 2] : List Nat).getD i 0) ?_
              refine WJ_takeP 0 rfl (by kernel_rfl) (Rd_fieldAddr rfl fo111_2) rfl rfl rfl (hp _ _) ?_
              refine WJ_tk 1 (Rd_load rfl tk109 (v := sl s.ia s.is.length s.ic)) hp ?_ rfl (by kernel_rfl) rfl rfl rfl
              refine WJ_takeP 2 rfl (by kernel_rfl) (Rd_move rfl) rfl rfl rfl (hp _ _) ?_
              refine WJ_takeP 3 rfl (by kernel_rfl) (Rd_index_sv j rfl rfl ud109 sz101 (hA := hSi) (hi := by omega)) rfl rfl rfl (hp _ _) ?_
              refine WJ_tk 4 (Rd_load_sv (f := ePI) (i := j) (j := 0) (u := sl p.a p.l.length p.cap) rfl tk101 (hA := hSi) (hl := hpp)) hp ?_ rfl (by kernel_rfl) rfl rfl rfl
              refine WJ_takeP 5 rfl (by kernel_rfl) (Rd_fieldAddr rfl fo111_3) rfl rfl rfl (hp _ _) ?_
              refine WJ_tk 6 (Rd_load rfl tk109 (v := sl s.ma s.ms.length s.mc)) hp ?_ rfl (by kernel_rfl) rfl rfl rfl
              refine WJ_takeP 7 rfl (by kernel_rfl) (Rd_move rfl) rfl rfl rfl (hp _ _) ?_
              refine WJ_takeP 8 rfl (by kernel_rfl) (Rd_index_sv j rfl rfl ud109 sz101 (hA := hSm) (hi := by omega)) rfl rfl rfl (hp _ _) ?_
              refine WJ_tk 9 (Rd_load_sv (f := ePI) (i := j) (j := 0) (u := sl p2.a p2.l.length p2.cap) rfl tk101 (hA := hSm) (hl := hp2)) hp ?_ rfl (by kernel_rfl) rfl rfl rfl
              refine WJ_all (rs := [10]) (by kernel_rfl) rfl ?_
              refine WI_one ?_
              refine WI_ac rfl (Ac_call cf67 rfl (hs := Ct.un0 (Xs := [star (FP 3) s.is, star (FP 3) s.ms]) (sameI_ct (X := sep [star (FP 3) s.is, star (FP 3) s.ms]) (l := p.l) (l' := p2.l) (hS := (Rd_ptI hB.ip hpp).pk (by repeat (first | with_reducible exact Has.here | with_reducible refine Has.there ?_))) (hS' := (Rd_ptI hB.im hp2).pk (by repeat (first | with_reducible exact Has.here | with_reducible refine Has.there ?_)))))) rfl rfl rfl rfl ?_
              rintro _ _ ⟨⟨⟩, rfl, hA⟩
              simp only [List.cons_append, List.nil_append] at hA
              replace hA := hA.symm
              subst hA
              rw [decide_eq_true (hB.atI hpp hp2)]
              refine ⟨(fun _ => (by repeat (first | with_reducible exact Sub.refl | with_reducible exact Sub.nil | with_reducible refine Sub.cons (by repeat (first | with_reducible exact Ext.here | with_reducible apply Ext.there)) ?_ | with_reducible refine Sub.tail ?_))), ?_⟩
              refine WJ_takeP 11 rfl (by kernel_rfl) (Rd_not rfl) rfl rfl rfl (hp _ _) ?_
              refine WJ_done (by kernel_rfl) ?_
              refine Ps_next hK25 ?_
              refine WC_condF rfl ?_
              refine WC_skip ?_
              refine Ps_next hK24 ?_
              refine WC_region ?_
              refine WL_rd (Rd_move rfl) rfl rfl rfl ?_
              refine WL_rd (Rd_addN (j := 1) rfl rfl) rfl rfl rfl ?_
              refine WL_rd (Rd_assign rfl) rfl rfl rfl ?_
              refine WL_nil ?_
              refine Ps_wk (by (try simp only [List.cons_append, List.nil_append]); repeat (first | with_reducible exact Wk.nil | refine Wk.cons (by first | rfl | (simp only [List.length_append, List.length_cons, List.length_nil, List.length_replicate, Nat.zero_add]; rfl) | (simp; done)) ?_)) (by (try simp only [List.cons_append, List.nil_append]); repeat (first | with_reducible exact Sub.refl | with_reducible exact Sub.nil | with_reducible refine Sub.cons (by repeat (first | with_reducible exact Ext.here | with_reducible apply Ext.there)) ?_ | with_reducible refine Sub.tail ?_)) (hK21 (j + 1) (by omega) (by omega))
            · try simp only [decide_eq_true_eq, decide_eq_false_iff_not, Bool.not_eq_true', Bool.not_eq_false', Bool.not_eq_true, Bool.not_eq_false, Int.not_lt, Int.not_le, Nat.not_lt, Nat.not_le, Decidable.not_not, ne_eq] at hc5
              refine WC_exit ?_
              refine Ps_next hK19 ?_
              refine WC_sr fun K26 hK26 => ?_
              refine WL_rd (Rd_fieldAddr rfl fo111_0) rfl rfl rfl ?_
              refine WL_rd (Rd_load rfl tk108 (v := sl s.pa s.ps.length s.pc)) rfl rfl rfl ?_
              refine WL_ac (Ac_call cf68 rfl (hs := apartD_ct (X := arr s.pa s.pc 1 76 ePD s.ps) (ps := s.ps) (hS := hSp) (hn := by omega) (hb := fun p h => by have := (hB.dp p h).2.2; omega))) rfl rfl rfl ?_
              rintro _ _ ⟨⟨⟩, rfl, hA⟩
              simp only [List.cons_append, List.nil_append] at hA
              replace hA := hA.symm
              subst hA
              refine WL_rd (Rd_move rfl) rfl rfl rfl ?_
              refine WL_rd (Rd_fieldAddr rfl fo111_2) rfl rfl rfl ?_
              refine WL_rd (Rd_load rfl tk109 (v := sl s.ia s.is.length s.ic)) rfl rfl rfl ?_
              refine WL_ac (Ac_call cf69 rfl (hs := apartI_ct (X := arr s.ia s.ic 1 101 ePI s.is) (ps := s.is) (hS := hSi) (hn := by omega) (hb := fun p h => by have := (hB.ip p h).2.2; omega))) rfl rfl rfl ?_
              rintro _ _ ⟨⟨⟩, rfl, hA⟩
              simp only [List.cons_append, List.nil_append] at hA
              replace hA := hA.symm
              subst hA
              refine WL_rd (Rd_pickT rfl rfl) rfl rfl rfl ?_
              refine WL_rd (Rd_assign rfl) rfl rfl rfl ?_
              refine WL_end hK26 ?_
              refine WC_ret ?_
              exact hret.go () (Rs1 rfl rfl)
end Go.Proofs.Ythkchjcodibaeaa
