/-
  Contracts of functions that the claim reaches, or the logic and the plain laws that they rest on, or the row over them. (Conditions: none beyond the statement.)
-/
import Derived.Test.YthkchjcodibaeaaZqTcE
import Derived.Test.YthkchjcodibaeaaLibR
set_option linter.all false
namespace Go.Proofs.Ythkchjcodibaeaa
open Go.RowKit Go.SL Go.ShM
set_option maxHeartbeats 1000000
set_option maxRecDepth 20000
set_option linter.all false
theorem fo115_1 : fo Try.prog 115 1 = some (1, 3) := by kernel_rfl
theorem fo115_2 : fo Try.prog 115 2 = some (2, 3) := by kernel_rfl
theorem fo115_3 : fo Try.prog 115 3 = some (3, 3) := by kernel_rfl
theorem sz4 : sz Try.prog 4 = some 1 := by kernel_rfl
theorem zr4 : zr Try.prog 4 = some [.bool false] := by kernel_rfl
theorem tgone_ct {q : TQ}  : Ct Try.prog 121 [.agg (eTQ q).toArray] [] (fun _ : Unit => .bool true) (fun _ => []) := by
  refine Ct_body (n := 57) Try.func121 rfl rfl rfl fun F w0 Q hret hnorm hp => ?_
  change WC _ _ _ _ _ _ _ (F)
  have hnl := nd_le q.n q.leaf
  have hul := upL_lenle (ndM q.n q.leaf)
  refine WC_dfrs0 ?_
  refine WC_sr fun K1 hK1 => ?_
  refine WL_ac (Ac_box (xs := eTQ q) rfl rfl) rfl rfl rfl ?_
  rintro _ _ ⟨b1, rfl, rfl⟩
  refine WL_ac (Ac_alloc zr4) rfl rfl rfl ?_
  rintro _ _ ⟨b2, rfl, rfl⟩
  refine WL_end hK1 ?_
  refine WC_sr fun K2 hK2 => ?_
  refine WL_rd (Rd_fieldAddr rfl fo115_1) rfl rfl rfl ?_
  refine WL_rd (Rd_load rfl tk3 (v := .int .i64 q.n)) rfl rfl rfl ?_
  refine WL_rd (Rd_fieldAddr rfl fo115_2) rfl rfl rfl ?_
  refine WL_rd (Rd_load rfl tk3 (v := .int .i64 q.leaf)) rfl rfl rfl ?_
  refine WL_ac (Ac_call cf112 rfl (hs := up_ct (n := q.n) (l := q.leaf))) rfl rfl rfl ?_
  rintro _ _ ⟨u12, rfl, hA⟩
  simp only [List.cons_append, List.nil_append] at hA
  replace hA := hA.symm
  subst hA
  refine WL_rd (Rd_assign rfl) rfl rfl rfl ?_
  refine WL_end hK2 ?_
  refine WC_sr fun K3 hK3 => ?_
  refine WL_rd (Rd_fieldAddr rfl fo115_1) rfl rfl rfl ?_
  refine WL_rd (Rd_load rfl tk3 (v := .int .i64 q.n)) rfl rfl rfl ?_
  refine WL_rd (Rd_fieldAddr rfl fo115_2) rfl rfl rfl ?_
  refine WL_rd (Rd_load rfl tk3 (v := .int .i64 q.leaf)) rfl rfl rfl ?_
  refine WL_ac (Ac_call cf164 rfl (hs := rUp_ct (n := q.n) (l := q.leaf))) rfl rfl rfl ?_
  rintro _ _ ⟨⟨wa, wc⟩, rfl, hA⟩
  simp only [List.cons_append, List.nil_append] at hA
  replace hA := hA.symm
  subst hA
  refine WL_fact (fun w h => arr_facts (a := wa) (cap := wc) (e := 1) (T := 3) (f := eN) (l := (upL (ndM q.n q.leaf))) (by repeat (first | with_reducible exact Has.here | with_reducible refine Has.there ?_)) h) (fun hWf => ?_)
  have hWS : Sv [arr wa wc 1 3 eN (upL (ndM q.n q.leaf))] (sl wa (upL (ndM q.n q.leaf)).length wc) 1 eN (upL (ndM q.n q.leaf)) (wa.map fun g => ⟨g, 0, none⟩) wc := Sv_own' encN hWf.1 hWf.2
  refine WL_ac (Ac_alloc zr101) rfl rfl rfl ?_
  rintro _ _ ⟨b4, rfl, rfl⟩
  refine WL_ac0 (Ac_store1 rfl rfl sz101) rfl rfl ?_
  rintro _ _ rfl
  refine WL_end hK3 ?_
  refine WC_seq fun K4 hK4 => ?_
  refine WC_sr fun K5 hK5 => ?_
  refine WL_rd (Rd_move rfl) rfl rfl rfl ?_
  first | refine WL_rd (Rd_feq rfl rfl Try.underlying163) rfl rfl rfl ?_ | refine WL_rd (Rd_feq0 rfl rfl Try.underlying163) rfl rfl rfl ?_
  refine WL_end hK5 ?_
  refine WC_condF rfl ?_
  refine WC_skip ?_
  refine Ps_next hK4 ?_
  refine WC_seq fun K6 hK6 => ?_
  refine WC_sr fun K7 hK7 => ?_
  refine WL_ac (Ac_alloc zr3) rfl rfl rfl ?_
  rintro _ _ ⟨b5, rfl, rfl⟩
  refine WL_ac0 (Ac_store1 rfl rfl sz3) rfl rfl ?_
  rintro _ _ rfl
  refine WL_end hK7 ?_
  refine WC_block ?_
  rw [show cl b5 3 [.int .i64 0] = cl b5 3 [.int .i64 ((0 : Nat) : Int)] from rfl]
  refine WC_loopKD (σ := Nat × (List Nat) × Nat) (fun ⟨r, Ds, r5⟩ => [(5, .pointer (some ⟨r5, 0, none⟩))]) (fun ⟨r, Ds, r5⟩ => [dfrs Ds, cl r5 3 [.int .i64 ((r : Nat) : Int)]]) (fun ⟨r, Ds, r5⟩ => r ≤ 3) (fun ⟨r, Ds, r5⟩ => 3 - r) (fun ⟨r, Ds, r5⟩ => Ds.map dmk) ⟨0, [], b5⟩ [1, 2, 3, 4, 25] (by repeat (first | exact Kep.nil | apply Kep.drop rfl | apply Kep.keep rfl)) (by (try dsimp only); repeat (first | with_reducible exact Gv.nil | (with_reducible apply Gv.cons; · (repeat (first | with_reducible exact Ext.here | with_reducible apply Ext.there))))) ?_ rfl ?_ Sub.refl ?_
  · exact Nat.zero_le _
  · (try dsimp only); exact (Wk.cons (by first | rfl | (simp only [List.length_append, List.length_cons, List.length_nil, List.length_replicate, Nat.zero_add]; rfl) | (simp; done)) Wk.nil)
  · rintro ⟨r, Ds, r5⟩ hr3 K8 hK8
    simp only [List.cons_append, List.nil_append]
    refine WC_seq fun K9 hK9 => ?_
    refine WC_sr fun K10 hK10 => ?_
    refine WL_rd (Rd_load rfl tk3) rfl rfl rfl ?_
    refine WL_rd (Rd_lssN (j := 3) rfl rfl) rfl rfl rfl ?_
    refine WL_end hK10 ?_
    refine WC_cond rfl (fun hc1 => ?_) (fun hc1 => ?_)
    · try simp only [decide_eq_true_eq, decide_eq_false_iff_not, Bool.not_eq_true', Bool.not_eq_false', Bool.not_eq_true, Bool.not_eq_false, Int.not_lt, Int.not_le, Nat.not_lt, Nat.not_le, Decidable.not_not, ne_eq] at hc1
      refine WC_skip ?_
      refine Ps_next hK9 ?_
      refine WC_seq fun K11 hK11 => ?_
      refine WC_block ?_
      refine WC_sr fun K12 hK12 => ?_
      refine WL_ac (Ac_alloc zr3) rfl rfl rfl ?_
      rintro _ _ ⟨b6, rfl, rfl⟩
      refine WL_ac0 (Ac_store1 rfl rfl sz3) rfl rfl ?_
      rintro _ _ rfl
      refine WL_end hK12 ?_
      refine WC_seq fun K13 hK13 => ?_
      refine WC_sr fun K14 hK14 => ?_
      refine WL_rd (Rd_move rfl) rfl rfl rfl ?_
      refine WL_end hK14 ?_
      refine WC_block ?_
      rw [show cl b6 3 [.int .i64 0] = cl b6 3 [.int .i64 ((0 : Nat) : Int)] from rfl]
      refine WC_rf (f := 161) (caps := [.pointer (some ⟨u12, 0, none⟩)]) rfl cf161 fun lrf_0 Drf_0 rrf_0 hstrf_0 hpdrf_0 hparf_0 hasrf_0 hbdrf_0 hfrrf_0 => ?_
      have hyrf_0 : ∀ (i : Nat), 1 ≤ i → i ≤ 1024 → Yd Try.prog lrf_0 [.int .i64 ((i : Nat) : Int)] [(fun (i : Nat) => exA (fun (c : Nat) => c ≤ (upL (ndM q.n q.leaf)).length ∧ (upL (ndM q.n q.leaf)).drop c = upL i) (fun (c : Nat) => [lp lrf_0 rrf_0, cl b6 3 [.int .i64 ((c : Nat) : Int)], cl r5 3 [.int .i64 ((r : Nat) : Int)], cl b4 101 [sl wa (upL (ndM q.n q.leaf)).length wc], arr wa wc 1 3 eN (upL (ndM q.n q.leaf)), cl b1 115 (eTQ q), cl b2 4 [.bool false]])) i] (fun b : Bool => .bool b) (fun b => [bif b then (fun (i : Nat) => exA (fun (c : Nat) => c ≤ (upL (ndM q.n q.leaf)).length ∧ (upL (ndM q.n q.leaf)).drop c = upL i) (fun (c : Nat) => [lp lrf_0 rrf_0, cl b6 3 [.int .i64 ((c : Nat) : Int)], cl r5 3 [.int .i64 ((r : Nat) : Int)], cl b4 101 [sl wa (upL (ndM q.n q.leaf)).length wc], arr wa wc 1 3 eN (upL (ndM q.n q.leaf)), cl b1 115 (eTQ q), cl b2 4 [.bool false]])) (i / 2) else (exA (fun (c : Nat) => r = 1) (fun (c : Nat) => [lp lrf_0 (rcD rrf_0 (.exit 2)), cl b6 3 [.int .i64 ((c : Nat) : Int)], cl r5 3 [.int .i64 ((r : Nat) : Int)], cl b4 101 [sl wa (upL (ndM q.n q.leaf)).length wc], arr wa wc 1 3 eN (upL (ndM q.n q.leaf)), cl b1 115 (eTQ q), cl b2 4 [.bool false]]))]) := by
        intro i hi1 hi2
        refine Yd_ex ?_
        rintro c ⟨hcl, hdr⟩
        refine Yd_of (pre := [cl b6 3 [.int .i64 ((c : Nat) : Int)], cl r5 3 [.int .i64 ((r : Nat) : Int)], cl b4 101 [sl wa (upL (ndM q.n q.leaf)).length wc], arr wa wc 1 3 eN (upL (ndM q.n q.leaf)), cl b1 115 (eTQ q), cl b2 4 [.bool false]]) hstrf_0 hpdrf_0 hparf_0 hasrf_0 hbdrf_0 hfrrf_0 rfl rfl fun F w0 Q K hp hend hbeg => ?_
        change WC _ _ _ _ _ _ ((25, .int .i64 ((i : Nat) : Int)) :: _) (_ :: _ :: _ :: _ :: _ :: _ :: _ :: F)
        dsimp only at *
        rw [upL_gt hi1] at hdr
        have hcl2 : c < (upL (ndM q.n q.leaf)).length := by rcases Nat.lt_or_ge c (upL (ndM q.n q.leaf)).length with z | z; exact z; (rw [List.drop_eq_nil_of_le z] at hdr; cases hdr)
        have hwc : (upL (ndM q.n q.leaf))[c]? = some i := by have h := congrArg (fun x => x[0]?) hdr; simpa using h
        have hdr2 : (upL (ndM q.n q.leaf)).drop (c + 1) = upL (i / 2) := by have h := congrArg List.tail hdr; simpa using h
        refine WC_region ?_
        refine WL_rd (Rd_assign rfl) rfl rfl rfl ?_
        refine WL_nil ?_
        refine hbeg (by repeat (first | with_reducible exact Ext.here | with_reducible apply Ext.there)) ?_
        refine WC_block ?_
        refine WC_seq fun K15 hK15 => ?_
        refine WC_sr fun K16 hK16 => ?_
        refine WL_rd (Rd_load rfl tk3) rfl rfl rfl ?_
        refine WL_rd (Rd_load rfl tk101 (v := sl wa (upL (ndM q.n q.leaf)).length wc)) rfl rfl rfl ?_
        refine WL_rd (Rd_len rfl rfl ud101) rfl rfl rfl ?_
        refine WL_rd (Rd_isF (Rd_geqN rfl rfl)) rfl rfl rfl ?_
        refine WL_rd (Rd_move rfl) rfl rfl rfl ?_
        refine WL_rd (Rd_load rfl tk101 (v := sl wa (upL (ndM q.n q.leaf)).length wc)) rfl rfl rfl ?_
        refine WL_rd (Rd_load rfl tk3) rfl rfl rfl ?_
        refine WL_rd (Rd_index_sv c rfl rfl ud101 sz3 (hA := hWS) (hi := by omega)) rfl rfl rfl ?_
        refine WL_rd (Rd_load_sv (f := eN) (i := c) (j := 0) rfl tk3 (hA := hWS) (hl := hwc)) rfl rfl rfl ?_
        refine WL_rd (Rd_move rfl) rfl rfl rfl ?_
        refine WL_rd (Rd_isF (Rd_neqN rfl rfl)) rfl rfl rfl ?_
        refine WL_rd (Rd_pickF rfl rfl) rfl rfl rfl ?_
        refine WL_end hK16 ?_
        refine WC_condF rfl ?_
        refine WC_skip ?_
        refine Ps_next hK15 ?_
        refine WC_sr fun K17 hK17 => ?_
        refine WL_rd (Rd_load rfl tk3) rfl rfl rfl ?_
        refine WL_rd (Rd_addN (j := 1) rfl rfl) rfl rfl rfl ?_
        refine WL_ac0 (Ac_store1 rfl rfl sz3) rfl rfl ?_
        rintro _ _ rfl
        refine WL_end hK17 ?_
        refine WC_sr fun K18 hK18 => ?_
        refine WL_rd (Rd_load rfl tk3) rfl rfl rfl ?_
        refine WL_rd (Rd_eqlN (j := 1) rfl rfl) rfl rfl rfl ?_
        refine WL_rd (Rd_move rfl) rfl rfl rfl ?_
        refine WL_bool 42 rfl (fun hg19 => ?_) (fun hg19 => ?_)
        · try simp only [decide_eq_true_eq, decide_eq_false_iff_not, Bool.not_eq_true', Bool.not_eq_false', Bool.not_eq_true, Bool.not_eq_false, Int.not_lt, Int.not_le, Nat.not_lt, Nat.not_le, Decidable.not_not, ne_eq] at hg19
          refine WL_rd (Rd_load rfl tk3) rfl rfl rfl ?_
          refine WL_rd (Rd_fieldAddr rfl fo115_3) rfl rfl rfl ?_
          refine WL_rd (Rd_load rfl tk3 (v := .int .i64 q.stop)) rfl rfl rfl ?_
          refine WL_rd (Rd_gtr rfl rfl) rfl rfl rfl ?_
          refine WL_rd (Rd_pickT rfl rfl) rfl rfl rfl ?_
          refine WL_end hK18 ?_
          refine WC_cond rfl (fun hc3 => ?_) (fun hc3 => ?_)
          · try simp only [decide_eq_true_eq, decide_eq_false_iff_not, Bool.not_eq_true', Bool.not_eq_false', Bool.not_eq_true, Bool.not_eq_false, Int.not_lt, Int.not_le, Nat.not_lt, Nat.not_le, Decidable.not_not, ne_eq] at hc3
            refine WC_exit ?_
            refine hend.exi 2 false rfl (by repeat (first | with_reducible exact Ext.here | with_reducible apply Ext.there)) ?_
            try simp only [List.cons_append, List.nil_append, cond_true, cond_false]
            exact imp_ex (c + 1) (by omega) (by (try dsimp only); (try simp only [List.cons_append, List.nil_append]); repeat (first | with_reducible exact Sub.refl | with_reducible exact Sub.nil | with_reducible refine Sub.cons (by repeat (first | with_reducible exact Ext.here | with_reducible apply Ext.there)) ?_ | with_reducible refine Sub.tail ?_))
          · try simp only [decide_eq_true_eq, decide_eq_false_iff_not, Bool.not_eq_true', Bool.not_eq_false', Bool.not_eq_true, Bool.not_eq_false, Int.not_lt, Int.not_le, Nat.not_lt, Nat.not_le, Decidable.not_not, ne_eq] at hc3
            refine WC_skip ?_
            refine hend.nrm true rfl (by repeat (first | with_reducible exact Ext.here | with_reducible apply Ext.there)) ?_
            try simp only [List.cons_append, List.nil_append, cond_true, cond_false]
            exact imp_ex (c + 1) (⟨hcl2, hdr2⟩) (by (try dsimp only); (try simp only [List.cons_append, List.nil_append]); repeat (first | with_reducible exact Sub.refl | with_reducible exact Sub.nil | with_reducible refine Sub.cons (by repeat (first | with_reducible exact Ext.here | with_reducible apply Ext.there)) ?_ | with_reducible refine Sub.tail ?_))
        · try simp only [decide_eq_true_eq, decide_eq_false_iff_not, Bool.not_eq_true', Bool.not_eq_false', Bool.not_eq_true, Bool.not_eq_false, Int.not_lt, Int.not_le, Nat.not_lt, Nat.not_le, Decidable.not_not, ne_eq] at hg19
          refine WL_skip rfl rfl rfl ?_
          refine WL_skip rfl rfl rfl ?_
          refine WL_skip rfl rfl rfl ?_
          refine WL_skip rfl rfl rfl ?_
          refine WL_rd (Rd_pickF rfl rfl) rfl rfl rfl ?_
          refine WL_end hK18 ?_
          refine WC_condF rfl ?_
          refine WC_skip ?_
          refine hend.nrm true rfl (by repeat (first | with_reducible exact Ext.here | with_reducible apply Ext.there)) ?_
          try simp only [List.cons_append, List.nil_append, cond_true, cond_false]
          exact imp_ex (c + 1) (⟨hcl2, hdr2⟩) (by (try dsimp only); (try simp only [List.cons_append, List.nil_append]); repeat (first | with_reducible exact Sub.refl | with_reducible exact Sub.nil | with_reducible refine Sub.cons (by repeat (first | with_reducible exact Ext.here | with_reducible apply Ext.there)) ?_ | with_reducible refine Sub.tail ?_))
      refine ⟨_, _, _, _, _, up1_ct (X := (fun (i : Nat) => exA (fun (c : Nat) => c ≤ (upL (ndM q.n q.leaf)).length ∧ (upL (ndM q.n q.leaf)).drop c = upL i) (fun (c : Nat) => [lp lrf_0 rrf_0, cl b6 3 [.int .i64 ((c : Nat) : Int)], cl r5 3 [.int .i64 ((r : Nat) : Int)], cl b4 101 [sl wa (upL (ndM q.n q.leaf)).length wc], arr wa wc 1 3 eN (upL (ndM q.n q.leaf)), cl b1 115 (eTQ q), cl b2 4 [.bool false]]))) (J := (exA (fun (c : Nat) => r = 1) (fun (c : Nat) => [lp lrf_0 (rcD rrf_0 (.exit 2)), cl b6 3 [.int .i64 ((c : Nat) : Int)], cl r5 3 [.int .i64 ((r : Nat) : Int)], cl b4 101 [sl wa (upL (ndM q.n q.leaf)).length wc], arr wa wc 1 3 eN (upL (ndM q.n q.leaf)), cl b1 115 (eTQ q), cl b2 4 [.bool false]]))) (hy := hyrf_0) (hm := hnl), imp_rf (Y := [_]) ((0)) (⟨Nat.zero_le _, rfl⟩) (by repeat (first | with_reducible exact Gv.nil | (with_reducible apply Gv.cons; · (repeat (first | with_reducible exact Ext.here | with_reducible apply Ext.there))))) (by (try dsimp only); repeat (first | with_reducible exact Gv.nil | (with_reducible apply Gv.cons; · (repeat (first | with_reducible exact Ext.here | with_reducible apply Ext.there))))), ?_⟩
      · rintro (_ | _)
        · skip
          simp only [List.cons_append, List.nil_append, cond_true, cond_false]
          refine RfEnd_ex ?_
          rintro c hJ
          simp only [List.cons_append, List.nil_append]
          refine RfEnd_jmp ?_
          refine WC_exit ?_
          refine Ps_next hK13 ?_
          refine WC_sr fun K20 hK20 => ?_
          refine WL_rd (Rd_load rfl tk3) rfl rfl rfl ?_
          refine WL_rd (Rd_neqN (j := 1) rfl rfl) rfl rfl rfl ?_
          refine WL_rd (Rd_move rfl) rfl rfl rfl ?_
          refine WL_bool 50 rfl (fun hg21 => ?_) (fun hg21 => ?_)
          · try simp only [decide_eq_true_eq, decide_eq_false_iff_not, Bool.not_eq_true', Bool.not_eq_false', Bool.not_eq_true, Bool.not_eq_false, Int.not_lt, Int.not_le, Nat.not_lt, Nat.not_le, Decidable.not_not, ne_eq] at hg21
            refine WL_rd (Rd_load rfl tk3) rfl rfl rfl ?_
            refine WL_rd (Rd_load rfl tk101 (v := sl wa (upL (ndM q.n q.leaf)).length wc)) rfl rfl rfl ?_
            refine WL_rd (Rd_len rfl rfl ud101) rfl rfl rfl ?_
            refine WL_rd (Rd_isF (Rd_neqN rfl rfl)) rfl rfl rfl ?_
            refine WL_rd (Rd_pickT rfl rfl) rfl rfl rfl ?_
            refine WL_end hK20 ?_
            refine WC_condF rfl ?_
            refine WC_skip ?_
            refine Ps_next hK11 ?_
            refine WC_seq fun K22 hK22 => ?_
            refine WC_sr fun K23 hK23 => ?_
            refine WL_rd (Rd_load rfl tk3) rfl rfl rfl ?_
            refine WL_end hK23 ?_
            refine WC_region ?_
            refine WL_ac (Ac_alloc zr3) rfl rfl rfl ?_
            rintro _ _ ⟨b5, rfl, rfl⟩
            refine WL_ac0 (Ac_store1 rfl rfl sz3) rfl rfl ?_
            rintro _ _ rfl
            refine WL_nil ?_
            refine Ps_next hK22 ?_
            refine WC_region ?_
            refine WL_rd (Rd_load rfl tk3) rfl rfl rfl ?_
            refine WL_rd (Rd_addN (j := 1) rfl rfl) rfl rfl rfl ?_
            refine WL_ac0 (Ac_store1 rfl rfl sz3) rfl rfl ?_
            rintro _ _ rfl
            refine WL_nil ?_
            refine Ps_dfrs (D := Drf_0) ?_
            refine Ps_wk (by (try simp only [List.cons_append, List.nil_append]); repeat (first | with_reducible exact Wk.nil | refine Wk.cons (by first | rfl | (simp only [List.length_append, List.length_cons, List.length_nil, List.length_replicate, Nat.zero_add]; rfl) | (simp; done)) ?_)) (by (try simp only [List.cons_append, List.nil_append]); repeat (first | with_reducible exact Sub.refl | with_reducible exact Sub.nil | with_reducible refine Sub.cons (by repeat (first | with_reducible exact Ext.here | with_reducible apply Ext.there)) ?_ | with_reducible refine Sub.tail ?_)) (hK8 ⟨r + 1, Drf_0 :: Ds, b5⟩ (by (try dsimp only); omega) (by (try dsimp only); omega))
          · try simp only [decide_eq_true_eq, decide_eq_false_iff_not, Bool.not_eq_true', Bool.not_eq_false', Bool.not_eq_true, Bool.not_eq_false, Int.not_lt, Int.not_le, Nat.not_lt, Nat.not_le, Decidable.not_not, ne_eq] at hg21
            refine WL_skip rfl rfl rfl ?_
            refine WL_skip rfl rfl rfl ?_
            refine WL_skip rfl rfl rfl ?_
            refine WL_skip rfl rfl rfl ?_
            refine WL_rd (Rd_pickF rfl rfl) rfl rfl rfl ?_
            refine WL_end hK20 ?_
            refine WC_condF rfl ?_
            refine WC_skip ?_
            refine Ps_next hK11 ?_
            refine WC_seq fun K24 hK24 => ?_
            refine WC_sr fun K25 hK25 => ?_
            refine WL_rd (Rd_load rfl tk3) rfl rfl rfl ?_
            refine WL_end hK25 ?_
            refine WC_region ?_
            refine WL_ac (Ac_alloc zr3) rfl rfl rfl ?_
            rintro _ _ ⟨b5, rfl, rfl⟩
            refine WL_ac0 (Ac_store1 rfl rfl sz3) rfl rfl ?_
            rintro _ _ rfl
            refine WL_nil ?_
            refine Ps_next hK24 ?_
            refine WC_region ?_
            refine WL_rd (Rd_load rfl tk3) rfl rfl rfl ?_
            refine WL_rd (Rd_addN (j := 1) rfl rfl) rfl rfl rfl ?_
            refine WL_ac0 (Ac_store1 rfl rfl sz3) rfl rfl ?_
            rintro _ _ rfl
            refine WL_nil ?_
            refine Ps_dfrs (D := Drf_0) ?_
            refine Ps_wk (by (try simp only [List.cons_append, List.nil_append]); repeat (first | with_reducible exact Wk.nil | refine Wk.cons (by first | rfl | (simp only [List.length_append, List.length_cons, List.length_nil, List.length_replicate, Nat.zero_add]; rfl) | (simp; done)) ?_)) (by (try simp only [List.cons_append, List.nil_append]); repeat (first | with_reducible exact Sub.refl | with_reducible exact Sub.nil | with_reducible refine Sub.cons (by repeat (first | with_reducible exact Ext.here | with_reducible apply Ext.there)) ?_ | with_reducible refine Sub.tail ?_)) (hK8 ⟨r + 1, Drf_0 :: Ds, b5⟩ (by (try dsimp only); omega) (by (try dsimp only); omega))
        · simp only [List.cons_append, List.nil_append, cond_true, cond_false]
          refine RfEnd_ex ?_
          rintro c ⟨hcl, hdr⟩
          simp only [List.cons_append, List.nil_append]
          rw [upL_0] at hdr
          obtain rfl : c = (upL (ndM q.n q.leaf)).length := by have := congrArg List.length hdr; simp at this; omega
          refine RfEnd_nrm hstrf_0 hpdrf_0 ?_
          refine Ps_next hK13 ?_
          refine WC_sr fun K26 hK26 => ?_
          refine WL_rd (Rd_load rfl tk3) rfl rfl rfl ?_
          refine WL_rd (Rd_neqN (j := 1) rfl rfl) rfl rfl rfl ?_
          refine WL_rd (Rd_move rfl) rfl rfl rfl ?_
          refine WL_bool 50 rfl (fun hg27 => ?_) (fun hg27 => ?_)
          · try simp only [decide_eq_true_eq, decide_eq_false_iff_not, Bool.not_eq_true', Bool.not_eq_false', Bool.not_eq_true, Bool.not_eq_false, Int.not_lt, Int.not_le, Nat.not_lt, Nat.not_le, Decidable.not_not, ne_eq] at hg27
            refine WL_rd (Rd_load rfl tk3) rfl rfl rfl ?_
            refine WL_rd (Rd_load rfl tk101 (v := sl wa (upL (ndM q.n q.leaf)).length wc)) rfl rfl rfl ?_
            refine WL_rd (Rd_len rfl rfl ud101) rfl rfl rfl ?_
            refine WL_rd (Rd_isF (Rd_neqN rfl rfl)) rfl rfl rfl ?_
            refine WL_rd (Rd_pickT rfl rfl) rfl rfl rfl ?_
            refine WL_end hK26 ?_
            refine WC_condF rfl ?_
            refine WC_skip ?_
            refine Ps_next hK11 ?_
            refine WC_seq fun K28 hK28 => ?_
            refine WC_sr fun K29 hK29 => ?_
            refine WL_rd (Rd_load rfl tk3) rfl rfl rfl ?_
            refine WL_end hK29 ?_
            refine WC_region ?_
            refine WL_ac (Ac_alloc zr3) rfl rfl rfl ?_
            rintro _ _ ⟨b5, rfl, rfl⟩
            refine WL_ac0 (Ac_store1 rfl rfl sz3) rfl rfl ?_
            rintro _ _ rfl
            refine WL_nil ?_
            refine Ps_next hK28 ?_
            refine WC_region ?_
            refine WL_rd (Rd_load rfl tk3) rfl rfl rfl ?_
            refine WL_rd (Rd_addN (j := 1) rfl rfl) rfl rfl rfl ?_
            refine WL_ac0 (Ac_store1 rfl rfl sz3) rfl rfl ?_
            rintro _ _ rfl
            refine WL_nil ?_
            refine Ps_dfrs (D := Drf_0) ?_
            refine Ps_wk (by (try simp only [List.cons_append, List.nil_append]); repeat (first | with_reducible exact Wk.nil | refine Wk.cons (by first | rfl | (simp only [List.length_append, List.length_cons, List.length_nil, List.length_replicate, Nat.zero_add]; rfl) | (simp; done)) ?_)) (by (try simp only [List.cons_append, List.nil_append]); repeat (first | with_reducible exact Sub.refl | with_reducible exact Sub.nil | with_reducible refine Sub.cons (by repeat (first | with_reducible exact Ext.here | with_reducible apply Ext.there)) ?_ | with_reducible refine Sub.tail ?_)) (hK8 ⟨r + 1, Drf_0 :: Ds, b5⟩ (by (try dsimp only); omega) (by (try dsimp only); omega))
          · try simp only [decide_eq_true_eq, decide_eq_false_iff_not, Bool.not_eq_true', Bool.not_eq_false', Bool.not_eq_true, Bool.not_eq_false, Int.not_lt, Int.not_le, Nat.not_lt, Nat.not_le, Decidable.not_not, ne_eq] at hg27
            refine WL_skip rfl rfl rfl ?_
            refine WL_skip rfl rfl rfl ?_
            refine WL_skip rfl rfl rfl ?_
            refine WL_skip rfl rfl rfl ?_
            refine WL_rd (Rd_pickF rfl rfl) rfl rfl rfl ?_
            refine WL_end hK26 ?_
            refine WC_condF rfl ?_
            refine WC_skip ?_
            refine Ps_next hK11 ?_
            refine WC_seq fun K30 hK30 => ?_
            refine WC_sr fun K31 hK31 => ?_
            refine WL_rd (Rd_load rfl tk3) rfl rfl rfl ?_
            refine WL_end hK31 ?_
            refine WC_region ?_
            refine WL_ac (Ac_alloc zr3) rfl rfl rfl ?_
            rintro _ _ ⟨b5, rfl, rfl⟩
            refine WL_ac0 (Ac_store1 rfl rfl sz3) rfl rfl ?_
            rintro _ _ rfl
            refine WL_nil ?_
            refine Ps_next hK30 ?_
            refine WC_region ?_
            refine WL_rd (Rd_load rfl tk3) rfl rfl rfl ?_
            refine WL_rd (Rd_addN (j := 1) rfl rfl) rfl rfl rfl ?_
            refine WL_ac0 (Ac_store1 rfl rfl sz3) rfl rfl ?_
            rintro _ _ rfl
            refine WL_nil ?_
            refine Ps_dfrs (D := Drf_0) ?_
            refine Ps_wk (by (try simp only [List.cons_append, List.nil_append]); repeat (first | with_reducible exact Wk.nil | refine Wk.cons (by first | rfl | (simp only [List.length_append, List.length_cons, List.length_nil, List.length_replicate, Nat.zero_add]; rfl) | (simp; done)) ?_)) (by (try simp only [List.cons_append, List.nil_append]); repeat (first | with_reducible exact Sub.refl | with_reducible exact Sub.nil | with_reducible refine Sub.cons (by repeat (first | with_reducible exact Ext.here | with_reducible apply Ext.there)) ?_ | with_reducible refine Sub.tail ?_)) (hK8 ⟨r + 1, Drf_0 :: Ds, b5⟩ (by (try dsimp only); omega) (by (try dsimp only); omega))
    · try simp only [decide_eq_true_eq, decide_eq_false_iff_not, Bool.not_eq_true', Bool.not_eq_false', Bool.not_eq_true, Bool.not_eq_false, Int.not_lt, Int.not_le, Nat.not_lt, Nat.not_le, Decidable.not_not, ne_eq] at hc1
      refine WC_exit ?_
      refine Ps_next hK6 ?_
      refine WC_sr fun K32 hK32 => ?_
      refine WL_ac0 (Ac_store1 rfl rfl sz4) rfl rfl ?_
      rintro _ _ rfl
      refine WL_end hK32 ?_
      refine WC_ret ?_
      refine hret.goSE () ?_ rfl
      exact Rs1cs rfl rfl tk4
end Go.Proofs.Ythkchjcodibaeaa
