/-
  Contracts of functions that the claim reaches, or the logic and the plain laws that they rest on, or the row over them. (Conditions: none beyond the statement.)
-/
import Derived.Test.YthkchjcodibaeaaZqTreeF
import Derived.Test.YthkchjcodibaeaaTrLeaves
set_option linter.all false
namespace Go.Proofs.Ythkchjcodibaeaa
open Go.RowKit Go.SL Go.ShM
set_option maxHeartbeats 1000000
set_option maxRecDepth 20000
set_option linter.all false
theorem cf113 : cfn Try.prog 113 = true := by kernel_rfl
theorem cloneD_ct {X : Asn} {v : Value} {ls : List Dg} {ao : Option Addr} {cap2 : Nat} (hS : Sv [X] v 32 fD ls ao cap2 := by assumption) (hl : ls.length ≤ 900000000000 := by omega) : Ct Try.prog 113 [v] [X] (fun g : Option Nat × Nat => sl g.1 ls.length g.2) (fun g => [X, arr g.1 g.2 32 42 fD ls]) := by
  refine Ct_body (n := 8) Try.func113 rfl rfl rfl fun F w0 Q hret hnorm hp => ?_
  change WC _ _ _ _ _ _ _ (_ :: F)
  have hv0 := hS.val
  subst hv0
  refine WC_sr fun K1 hK1 => ?_
  refine WL_rd (Rd_assign (v := sl none 0 0) rfl) rfl rfl rfl ?_
  refine WL_end hK1 ?_
  refine WC_seq fun K2 hK2 => ?_
  refine WC_sr fun K3 hK3 => ?_
  refine WL_rd (Rd_move rfl) rfl rfl rfl ?_
  refine WL_rd (Rd_seq rfl rfl ud76) rfl rfl rfl ?_
  refine WL_end hK3 ?_
  refine WC_cond rfl (fun hc0 => ?_) (fun hc0 => ?_)
  · try simp only [decide_eq_true_eq, decide_eq_false_iff_not, Bool.not_eq_true', Bool.not_eq_false', Bool.not_eq_true, Bool.not_eq_false, Int.not_lt, Int.not_le, Nat.not_lt, Nat.not_le, Decidable.not_not, ne_eq] at hc0
    have hnil := sv_nil hS hc0
    subst hnil
    refine WC_imp (fun w h => sat_nil (e := 32) (T := 42) (f := fD) h) ?_
    refine WC_sr fun K4 hK4 => ?_
    refine WL_rd (Rd_assign (v := sl none 0 0) rfl) rfl rfl rfl ?_
    refine WL_end hK4 ?_
    refine WC_ret ?_
    first | exact hret.go (none, 0) (Rs1 rfl rfl) | exact hret.go (a7, cap7) (Rs1 rfl rfl)
  · try simp only [decide_eq_true_eq, decide_eq_false_iff_not, Bool.not_eq_true', Bool.not_eq_false', Bool.not_eq_true, Bool.not_eq_false, Int.not_lt, Int.not_le, Nat.not_lt, Nat.not_le, Decidable.not_not, ne_eq] at hc0
    refine WC_skip ?_
    refine Ps_next hK2 ?_
    refine WC_sr fun K5 hK5 => ?_
    refine WL_ac (Ac_bsL (f := fD) (zs := [.int .u8 0, .int .u8 0, .int .u8 0, .int .u8 0, .int .u8 0, .int .u8 0, .int .u8 0, .int .u8 0, .int .u8 0, .int .u8 0, .int .u8 0, .int .u8 0, .int .u8 0, .int .u8 0, .int .u8 0, .int .u8 0, .int .u8 0, .int .u8 0, .int .u8 0, .int .u8 0, .int .u8 0, .int .u8 0, .int .u8 0, .int .u8 0, .int .u8 0, .int .u8 0, .int .u8 0, .int .u8 0, .int .u8 0, .int .u8 0, .int .u8 0, .int .u8 0]) (bs := []) [] encD ud76 zr42 sz42 rfl (by rw [Array.toList_map, Array.toList_range]; rfl) (by rfl) (by rfl) (by rfl) (by rfl)) rfl rfl rfl ?_
    rintro _ _ ⟨b5, rfl, rfl⟩
    refine WL_rd (Rd_move rfl) rfl rfl rfl ?_
    refine WL_ac (Ac_appendS (f := fD) encD rfl rfl ud76 ud76 el42 (hS := hS) (hb := by simp only [List.length_nil]; omega)) rfl rfl rfl ?_
    rintro _ _ ⟨a7, cap7, rfl, rfl⟩
    rw [show ([] : List Dg).length + ls.length = ls.length from Nat.zero_add _, List.nil_append]
    refine WL_rd (Rd_assign rfl) rfl rfl rfl ?_
    refine WL_end hK5 ?_
    refine WC_ret ?_
    first | exact hret.go (none, 0) (Rs1 rfl rfl) | exact hret.go (a7, cap7) (Rs1 rfl rfl)

theorem leaves_ct {n : Nat} {X : Asn} {v : Value} {ls : List Dg} {ao : Option Addr} {cap2 : Nat} (hS : Sv [X] v 32 fD ls ao cap2 := by assumption) : Ct Try.prog 65 [.int .i64 ((n : Nat) : Int), v] [X] (fun g : Option Nat × Nat => .tuple #[sl g.1 (lvL n ls).length g.2, .int .i64 (((lvA n ls) : Nat) : Int), .int .i64 (((lvE n ls) : Nat) : Int)]) (fun g => [X, arr g.1 g.2 32 42 fD (lvL n ls)]) := by
  refine Ct_body (n := 83) Try.func65 rfl rfl rfl fun F w0 Q hret hnorm hp => ?_
  change WC _ _ _ _ _ _ _ (_ :: F)
  refine WC_sr fun K1 hK1 => ?_
  refine WL_rd (Rd_assign (v := sl none 0 0) rfl) rfl rfl rfl ?_
  refine WL_rd (Rd_assign rfl) rfl rfl rfl ?_
  refine WL_rd (Rd_assign rfl) rfl rfl rfl ?_
  refine WL_end hK1 ?_
  refine WC_sr fun K2 hK2 => ?_
  refine WL_rd (Rd_move rfl) rfl rfl rfl ?_
  refine WL_ac (Ac_call cf97 rfl (hs := widthL_ct (n := n))) rfl rfl rfl ?_
  rintro _ _ ⟨⟨⟩, rfl, hA⟩
  simp only [List.cons_append, List.nil_append] at hA
  replace hA := hA.symm
  subst hA
  refine WL_rd (Rd_move rfl) rfl rfl rfl ?_
  refine WL_rd (Rd_ext0 rfl) rfl rfl rfl ?_
  refine WL_rd (Rd_ext1 rfl) rfl rfl rfl ?_
  refine WL_rd (Rd_assign rfl) rfl rfl rfl ?_
  refine WL_rd (Rd_assign rfl) rfl rfl rfl ?_
  refine WL_end hK2 ?_
  refine WC_seq fun K3 hK3 => ?_
  refine WC_block ?_
  refine WC_sr fun K4 hK4 => ?_
  refine WL_rd (Rd_move rfl) rfl rfl rfl ?_
  refine WL_rd (Rd_neqN (j := 0) rfl rfl) rfl rfl rfl ?_
  refine WL_rd (Rd_assign rfl) rfl rfl rfl ?_
  refine WL_end hK4 ?_
  refine WC_cond rfl (fun hc0 => ?_) (fun hc0 => ?_)
  · try simp only [decide_eq_true_eq, decide_eq_false_iff_not, Bool.not_eq_true', Bool.not_eq_false', Bool.not_eq_true, Bool.not_eq_false, Int.not_lt, Int.not_le, Nat.not_lt, Nat.not_le, Decidable.not_not, ne_eq] at hc0
    obtain ⟨e1, e2, e3⟩ := lv_w (ns := ls) hc0
    rw [e1, e2, e3] at hret
    refine WC_imp (fun w h => sat_nil (e := 32) (T := 42) (f := fD) h) ?_
    refine WC_sr fun K5 hK5 => ?_
    refine WL_rd (Rd_move rfl) rfl rfl rfl ?_
    refine WL_rd (Rd_assign (v := sl none 0 0) rfl) rfl rfl rfl ?_
    refine WL_rd (Rd_assign rfl) rfl rfl rfl ?_
    refine WL_rd (Rd_assign rfl) rfl rfl rfl ?_
    refine WL_end hK5 ?_
    refine WC_ret ?_
    first | exact hret.go (none, 0) (Rs3 rfl rfl rfl rfl) | exact hret.goE (a82, cap82) (Rs3 rfl rfl rfl rfl) rfl
  · try simp only [decide_eq_true_eq, decide_eq_false_iff_not, Bool.not_eq_true', Bool.not_eq_false', Bool.not_eq_true, Bool.not_eq_false, Int.not_lt, Int.not_le, Nat.not_lt, Nat.not_le, Decidable.not_not, ne_eq] at hc0
    have hw0 := wdE_iff.1 hc0
    have hwo := wd_ok hw0.1 hw0.2
    refine WC_sr fun K6 hK6 => ?_
    refine WL_rd (Rd_move rfl) rfl rfl rfl ?_
    refine WL_rd (Rd_len_sv rfl rfl ud76) rfl rfl rfl ?_
    refine WL_rd (Rd_move rfl) rfl rfl rfl ?_
    refine WL_rd (Rd_mulN (i := 2) rfl rfl) rfl rfl rfl ?_
    refine WL_rd (Rd_subN (j := 1) rfl rfl) rfl rfl rfl ?_
    refine WL_rd (Rd_neqN rfl rfl) rfl rfl rfl ?_
    refine WL_rd (Rd_assign rfl) rfl rfl rfl ?_
    refine WL_end hK6 ?_
    refine WC_cond rfl (fun hc1 => ?_) (fun hc1 => ?_)
    · try simp only [decide_eq_true_eq, decide_eq_false_iff_not, Bool.not_eq_true', Bool.not_eq_false', Bool.not_eq_true, Bool.not_eq_false, Int.not_lt, Int.not_le, Nat.not_lt, Nat.not_le, Decidable.not_not, ne_eq] at hc1
      obtain ⟨e1, e2, e3⟩ := lv_l (ns := ls) hc0 hc1
      rw [e1, e2, e3] at hret
      refine WC_imp (fun w h => sat_nil (e := 32) (T := 42) (f := fD) h) ?_
      refine WC_sr fun K7 hK7 => ?_
      refine WL_rd (Rd_assign (v := sl none 0 0) rfl) rfl rfl rfl ?_
      refine WL_rd (Rd_assign rfl) rfl rfl rfl ?_
      refine WL_rd (Rd_assign rfl) rfl rfl rfl ?_
      refine WL_end hK7 ?_
      refine WC_ret ?_
      first | exact hret.go (none, 0) (Rs3 rfl rfl rfl rfl) | exact hret.goE (a82, cap82) (Rs3 rfl rfl rfl rfl) rfl
    · try simp only [decide_eq_true_eq, decide_eq_false_iff_not, Bool.not_eq_true', Bool.not_eq_false', Bool.not_eq_true, Bool.not_eq_false, Int.not_lt, Int.not_le, Nat.not_lt, Nat.not_le, Decidable.not_not, ne_eq] at hc1
      refine WC_skip ?_
      refine Ps_next hK3 ?_
      refine WC_seq fun K8 hK8 => ?_
      refine WC_sr fun K9 hK9 => ?_
      refine WL_rd (Rd_move rfl) rfl rfl rfl ?_
      refine WL_rd (Rd_len_sv rfl rfl ud76) rfl rfl rfl ?_
      refine WL_rd (Rd_move rfl) rfl rfl rfl ?_
      refine WL_end hK9 ?_
      refine WC_block ?_
      refine WC_loopK (σ := Nat) (fun i' => [(30, .int .i64 ((i' : Nat) : Int))]) (fun i' => []) (fun i' => i' ≤ ls.length ∧ (∀ x, 1 ≤ x → x ≤ i' → bad n (wdM n) ls x = false)) (fun i' => ls.length - i') (0) [0, 1, 7, 28, 29, 74, 75, 76, 77, 78, 79, 80, 81, 82] (by repeat (first | exact Kep.nil | apply Kep.drop rfl | apply Kep.keep rfl)) (by (try dsimp only); repeat (first | with_reducible exact Gv.nil | (with_reducible apply Gv.cons; · (repeat (first | with_reducible exact Ext.here | with_reducible apply Ext.there))))) ?_ ?_ Sub.refl ?_
      · exact ⟨Nat.zero_le _, fun x h1 h2 => by omega⟩
      · (try dsimp only); exact (Wk.cons (by first | rfl | (simp only [List.length_append, List.length_cons, List.length_nil, List.length_replicate, Nat.zero_add]; rfl) | (simp; done)) Wk.nil)
      · rintro i' ⟨hi, hg'⟩ K10 hK10
        simp only [List.cons_append, List.nil_append]
        refine WC_sr fun K11 hK11 => ?_
        refine WL_rd (Rd_lssN rfl rfl) rfl rfl rfl ?_
        refine WL_end hK11 ?_
        refine WC_seq fun K12 hK12 => ?_
        refine WC_cond rfl (fun hc2 => ?_) (fun hc2 => ?_)
        · try simp only [decide_eq_true_eq, decide_eq_false_iff_not, Bool.not_eq_true', Bool.not_eq_false', Bool.not_eq_true, Bool.not_eq_false, Int.not_lt, Int.not_le, Nat.not_lt, Nat.not_le, Decidable.not_not, ne_eq] at hc2
          have hdg := Dg_len (ls.getD (i') zD)
          have htn := tagD_len 6#8 [(ls.getD (2 * (i' + 1) - 1) zD).1, (ls.getD (2 * (i' + 1)) zD).1]
          have htp := tagD_len 7#8 [big32 (BitVec.ofNat 32 (i' + 1 - (wdM n)))]
          refine WC_skip ?_
          refine Ps_next hK12 ?_
          refine WC_seq fun K13 hK13 => ?_
          refine WC_block ?_
          refine WC_sr fun K14 hK14 => ?_
          refine WL_rd (Rd_move rfl) rfl rfl rfl ?_
          refine WL_rd (Rd_index_sv (i') rfl rfl ud76 sz42 (hA := hS) (hj := by omega) (hi := by omega)) rfl rfl rfl ?_
          refine WL_rd (Rd_aU (k := .u8) (l := ((ls).getD (i') zD).1) (Rd_loadg_sv (i := i') rfl tk42 (hA := hS) (hl := at_of (by omega))) rfl) rfl rfl rfl ?_
          refine WL_ac (Ac_allocW (k := .u8) (w := 8) (m := 32) zr42) rfl rfl rfl ?_
          rintro _ _ ⟨b10, rfl, rfl⟩
          refine WL_rd (Rd_assign rfl) rfl rfl rfl ?_
          refine WL_ac0 (Ac_storeW rfl rfl sz42) rfl rfl ?_
          rintro _ _ rfl
          refine WL_end hK14 ?_
          refine WC_sr fun K15 hK15 => ?_
          refine WL_rd (Rd_move rfl) rfl rfl rfl ?_
          refine WL_rd (Rd_addN (j := 1) rfl rfl) rfl rfl rfl ?_
          refine WL_rd (Rd_assign rfl) rfl rfl rfl ?_
          refine WL_end hK15 ?_
          refine WC_seq fun K16 hK16 => ?_
          refine WC_drawA mix (fun i => ([2, 2, 2, 2, 2, 2, 2, 2, 2, 2, 2, 2, 2, 2, 2, 2, 1, 2, 2, 2, 2, 2, 2, 2, 2, 2, 2, 2, 2, 2, 2, 1, 2, 2, 2] : List Nat).getD i 0) ?_
          refine WJ_takeP 0 rfl (by kernel_rfl) (Rd_move rfl) rfl rfl rfl (hp _ _) ?_
          refine WJ_takeP 1 rfl (by kernel_rfl) (Rd_move rfl) rfl rfl rfl (hp _ _) ?_
          refine WJ_takeP 2 rfl (by kernel_rfl) (Rd_lssN rfl rfl) rfl rfl rfl (hp _ _) ?_
          refine WJ_takeP 3 rfl (by kernel_rfl) (Rd_move rfl) rfl rfl rfl (hp _ _) ?_
          refine WJ_bool 40 rfl (fun hg17 => ?_) (fun hg17 => ?_)
          · try simp only [decide_eq_true_eq, decide_eq_false_iff_not, Bool.not_eq_true', Bool.not_eq_false', Bool.not_eq_true, Bool.not_eq_false, Int.not_lt, Int.not_le, Nat.not_lt, Nat.not_le, Decidable.not_not, ne_eq] at hg17
            have q0 := hg17
            refine WJ_tk 4 (Rd_loadW rfl tk42) hp ?_ rfl (by kernel_rfl) rfl rfl rfl
            refine WJ_takeP 5 rfl (by kernel_rfl) (Rd_move rfl) rfl rfl rfl (hp _ _) ?_
            refine WJ_takeP 6 rfl (by kernel_rfl) (Rd_move rfl) rfl rfl rfl (hp _ _) ?_
            refine WJ_takeP 7 rfl (by kernel_rfl) (Rd_mulN (i := 2) rfl rfl) rfl rfl rfl (hp _ _) ?_
            refine WJ_takeP 8 rfl (by kernel_rfl) (Rd_subN (j := 1) rfl rfl) rfl rfl rfl (hp _ _) ?_
            refine WJ_takeP 9 rfl (by kernel_rfl) (Rd_index_sv (2 * (i' + 1) - 1) rfl rfl ud76 sz42 (hA := hS) (hj := by omega) (hi := by omega)) rfl rfl rfl (hp _ _) ?_
            refine WJ_tk 10 (Rd_aU (k := .u8) (l := ((ls).getD (2 * (i' + 1) - 1) zD).1) (Rd_loadg_sv (i := 2 * (i' + 1) - 1) rfl tk42 (hA := hS) (hl := at_of (by omega))) rfl) hp ?_ rfl (by kernel_rfl) rfl rfl rfl
            refine WJ_takeP 11 rfl (by kernel_rfl) (Rd_move rfl) rfl rfl rfl (hp _ _) ?_
            refine WJ_takeP 12 rfl (by kernel_rfl) (Rd_move rfl) rfl rfl rfl (hp _ _) ?_
            refine WJ_takeP 13 rfl (by kernel_rfl) (Rd_mulN (i := 2) rfl rfl) rfl rfl rfl (hp _ _) ?_
            refine WJ_takeP 14 rfl (by kernel_rfl) (Rd_index_sv (2 * (i' + 1)) rfl rfl ud76 sz42 (hA := hS) (hj := by omega) (hi := by omega)) rfl rfl rfl (hp _ _) ?_
            refine WJ_tk 15 (Rd_aU (k := .u8) (l := ((ls).getD (2 * (i' + 1)) zD).1) (Rd_loadg_sv (i := 2 * (i' + 1)) rfl tk42 (hA := hS) (hl := at_of (by omega))) rfl) hp ?_ rfl (by kernel_rfl) rfl rfl rfl
            refine WJ_all (rs := [16]) (by kernel_rfl) rfl ?_
            refine WI_one ?_
            refine WI_ac rfl (Ac_call cf99 rfl (hs := node_ct (x := (ls.getD (2 * (i' + 1) - 1) zD).1) (y := (ls.getD (2 * (i' + 1)) zD).1) (hx := Dg_len _) (hy := Dg_len _))) rfl rfl rfl rfl ?_
            rintro _ _ ⟨⟨⟩, rfl, hA⟩
            simp only [List.cons_append, List.nil_append] at hA
            replace hA := hA.symm
            subst hA
            refine ⟨(fun _ => (by repeat (first | with_reducible exact Sub.refl | with_reducible exact Sub.nil | with_reducible refine Sub.cons (by repeat (first | with_reducible exact Ext.here | with_reducible apply Ext.there)) ?_ | with_reducible refine Sub.tail ?_))), ?_⟩
            refine WJ_takeP 17 rfl (by kernel_rfl) (Rd_neW rfl rfl ais42) rfl rfl rfl (hp _ _) ?_
            refine WJ_takeP 18 rfl (by kernel_rfl) (Rd_pickT rfl rfl) rfl rfl rfl (hp _ _) ?_
            refine WJ_takeP 19 rfl (by kernel_rfl) (Rd_move rfl) rfl rfl rfl (hp _ _) ?_
            refine WJ_bool 56 rfl (fun hg18 => ?_) (fun hg18 => ?_)
            · try simp only [decide_eq_true_eq, decide_eq_false_iff_not, Bool.not_eq_true', Bool.not_eq_false', Bool.not_eq_true, Bool.not_eq_false, Int.not_lt, Int.not_le, Nat.not_lt, Nat.not_le, Decidable.not_not, ne_eq] at hg18
              have q1 := hg18
              refine WJ_skip 20 rfl (by kernel_rfl) rfl rfl rfl (hp _ _) ?_
              refine WJ_skip 21 rfl (by kernel_rfl) rfl rfl rfl (hp _ _) ?_
              refine WJ_skip 22 rfl (by kernel_rfl) rfl rfl rfl (hp _ _) ?_
              refine WJ_skip 23 rfl (by kernel_rfl) rfl rfl rfl (hp _ _) ?_
              refine WJ_skip 24 rfl (by kernel_rfl) rfl rfl rfl (hp _ _) ?_
              refine WJ_skip 25 rfl (by kernel_rfl) rfl rfl rfl (hp _ _) ?_
              refine WJ_skip 26 rfl (by kernel_rfl) rfl rfl rfl (hp _ _) ?_
              refine WJ_skip 27 rfl (by kernel_rfl) rfl rfl rfl (hp _ _) ?_
              refine WJ_skip 28 rfl (by kernel_rfl) rfl rfl rfl (hp _ _) ?_
              refine WJ_skip 29 rfl (by kernel_rfl) rfl rfl rfl (hp _ _) ?_
              refine WJ_skip 30 rfl (by kernel_rfl) rfl rfl rfl (hp _ _) ?_
              refine WJ_all (rs := [31]) (by kernel_rfl) rfl ?_
              refine WI_one ?_
              refine WI_skip rfl rfl rfl rfl (fun _ => (by repeat (first | with_reducible exact Sub.refl | with_reducible exact Sub.nil | with_reducible refine Sub.cons (by repeat (first | with_reducible exact Ext.here | with_reducible apply Ext.there)) ?_ | with_reducible refine Sub.tail ?_))) ?_
              refine WJ_skip 32 rfl (by kernel_rfl) rfl rfl rfl (hp _ _) ?_
              refine WJ_skip 33 rfl (by kernel_rfl) rfl rfl rfl (hp _ _) ?_
              refine WJ_takeP 34 rfl (by kernel_rfl) (Rd_pickT rfl rfl) rfl rfl rfl (hp _ _) ?_
              refine WJ_done (by kernel_rfl) ?_
              refine Ps_next hK16 ?_
              refine WC_condT rfl ?_
              have hb := by first | exact bad_1 (n := n) (ns := ls) (x := i' + 1) q0 q1 | exact bad_2 (n := n) (ns := ls) (x := i' + 1) q2 hc3
              obtain ⟨e1, e2, e3⟩ := lv_bad (ns := ls) hc0 hc1 hc2 hb hg'
              rw [e1, e2, e3] at hret
              refine WC_imp (fun w h => sat_nil (e := 32) (T := 42) (f := fD) h) ?_
              refine WC_sr fun K19 hK19 => ?_
              refine WL_rd (Rd_move rfl) rfl rfl rfl ?_
              refine WL_rd (Rd_assign (v := sl none 0 0) rfl) rfl rfl rfl ?_
              refine WL_rd (Rd_assign rfl) rfl rfl rfl ?_
              refine WL_rd (Rd_assign rfl) rfl rfl rfl ?_
              refine WL_end hK19 ?_
              refine WC_ret ?_
              first | exact hret.go (none, 0) (Rs3 rfl rfl rfl rfl) | exact hret.goE (a82, cap82) (Rs3 rfl rfl rfl rfl) rfl
            · try simp only [decide_eq_true_eq, decide_eq_false_iff_not, Bool.not_eq_true', Bool.not_eq_false', Bool.not_eq_true, Bool.not_eq_false, Int.not_lt, Int.not_le, Nat.not_lt, Nat.not_le, Decidable.not_not, ne_eq] at hg18
              have q1 := hg18
              refine WJ_takeP 20 rfl (by kernel_rfl) (Rd_move rfl) rfl rfl rfl (hp _ _) ?_
              refine WJ_takeP 21 rfl (by kernel_rfl) (Rd_move rfl) rfl rfl rfl (hp _ _) ?_
              refine WJ_takeP 22 rfl (by kernel_rfl) (Rd_move rfl) rfl rfl rfl (hp _ _) ?_
              refine WJ_takeP 23 rfl (by kernel_rfl) (Rd_addN rfl rfl) rfl rfl rfl (hp _ _) ?_
              refine WJ_takeP 24 rfl (by kernel_rfl) (Rd_isF (Rd_geqN rfl rfl) (by simp; omega)) rfl rfl rfl (hp _ _) ?_
              refine WJ_takeP 25 rfl (by kernel_rfl) (Rd_move rfl) rfl rfl rfl (hp _ _) ?_
              refine WJ_skip 26 rfl (by kernel_rfl) rfl rfl rfl (hp _ _) ?_
              refine WJ_skip 27 rfl (by kernel_rfl) rfl rfl rfl (hp _ _) ?_
              refine WJ_skip 28 rfl (by kernel_rfl) rfl rfl rfl (hp _ _) ?_
              refine WJ_skip 29 rfl (by kernel_rfl) rfl rfl rfl (hp _ _) ?_
              refine WJ_skip 30 rfl (by kernel_rfl) rfl rfl rfl (hp _ _) ?_
              refine WJ_all (rs := [31]) (by kernel_rfl) rfl ?_
              refine WI_one ?_
              refine WI_skip rfl rfl rfl rfl (fun _ => (by repeat (first | with_reducible exact Sub.refl | with_reducible exact Sub.nil | with_reducible refine Sub.cons (by repeat (first | with_reducible exact Ext.here | with_reducible apply Ext.there)) ?_ | with_reducible refine Sub.tail ?_))) ?_
              refine WJ_skip 32 rfl (by kernel_rfl) rfl rfl rfl (hp _ _) ?_
              refine WJ_takeP 33 rfl (by kernel_rfl) (Rd_pickF rfl rfl) rfl rfl rfl (hp _ _) ?_
              refine WJ_takeP 34 rfl (by kernel_rfl) (Rd_pickF rfl rfl) rfl rfl rfl (hp _ _) ?_
              refine WJ_done (by kernel_rfl) ?_
              refine Ps_next hK16 ?_
              refine WC_condF rfl ?_
              have hb : bad n (wdM n) ls (i' + 1) = false := by first | exact good_1 (x := i' + 1) q0 q1 | exact good_2 (x := i' + 1) (by omega) hc3 | exact good_3 (by omega) (by omega)
              refine WC_skip ?_
              refine Ps_next hK13 ?_
              refine WC_region ?_
              refine WL_rd (Rd_addN (j := 1) rfl rfl) rfl rfl rfl ?_
              refine WL_rd (Rd_move rfl) rfl rfl rfl ?_
              refine WL_nil ?_
              refine Ps_wk (by (try simp only [List.cons_append, List.nil_append]); repeat (first | with_reducible exact Wk.nil | refine Wk.cons (by first | rfl | (simp only [List.length_append, List.length_cons, List.length_nil, List.length_replicate, Nat.zero_add]; rfl) | (simp; done)) ?_)) (by (try simp only [List.cons_append, List.nil_append]); repeat (first | with_reducible exact Sub.refl | with_reducible exact Sub.nil | with_reducible refine Sub.cons (by repeat (first | with_reducible exact Ext.here | with_reducible apply Ext.there)) ?_ | with_reducible refine Sub.tail ?_)) (hK10 (i' + 1) (⟨by omega, fun x h1 h2 => by rcases Nat.lt_or_ge i' x with z | z; (obtain rfl : x = i' + 1 := by omega); exact hb; exact hg' x h1 z⟩) (by omega))
          · try simp only [decide_eq_true_eq, decide_eq_false_iff_not, Bool.not_eq_true', Bool.not_eq_false', Bool.not_eq_true, Bool.not_eq_false, Int.not_lt, Int.not_le, Nat.not_lt, Nat.not_le, Decidable.not_not, ne_eq] at hg17
            have q0 := hg17
            refine WJ_skip 4 rfl (by kernel_rfl) rfl rfl rfl (hp _ _) ?_
            refine WJ_skip 5 rfl (by kernel_rfl) rfl rfl rfl (hp _ _) ?_
            refine WJ_skip 6 rfl (by kernel_rfl) rfl rfl rfl (hp _ _) ?_
            refine WJ_skip 7 rfl (by kernel_rfl) rfl rfl rfl (hp _ _) ?_
            refine WJ_skip 8 rfl (by kernel_rfl) rfl rfl rfl (hp _ _) ?_
            refine WJ_skip 9 rfl (by kernel_rfl) rfl rfl rfl (hp _ _) ?_
            refine WJ_skip 10 rfl (by kernel_rfl) rfl rfl rfl (hp _ _) ?_
            refine WJ_skip 11 rfl (by kernel_rfl) rfl rfl rfl (hp _ _) ?_
            refine WJ_skip 12 rfl (by kernel_rfl) rfl rfl rfl (hp _ _) ?_
            refine WJ_skip 13 rfl (by kernel_rfl) rfl rfl rfl (hp _ _) ?_
            refine WJ_skip 14 rfl (by kernel_rfl) rfl rfl rfl (hp _ _) ?_
            refine WJ_skip 15 rfl (by kernel_rfl) rfl rfl rfl (hp _ _) ?_
            refine WJ_all (rs := [16]) (by kernel_rfl) rfl ?_
            refine WI_one ?_
            refine WI_skip rfl rfl rfl rfl (fun _ => (by repeat (first | with_reducible exact Sub.refl | with_reducible exact Sub.nil | with_reducible refine Sub.cons (by repeat (first | with_reducible exact Ext.here | with_reducible apply Ext.there)) ?_ | with_reducible refine Sub.tail ?_))) ?_
            refine WJ_skip 17 rfl (by kernel_rfl) rfl rfl rfl (hp _ _) ?_
            refine WJ_takeP 18 rfl (by kernel_rfl) (Rd_pickF rfl rfl) rfl rfl rfl (hp _ _) ?_
            refine WJ_takeP 19 rfl (by kernel_rfl) (Rd_move rfl) rfl rfl rfl (hp _ _) ?_
            refine WJ_takeP 20 rfl (by kernel_rfl) (Rd_move rfl) rfl rfl rfl (hp _ _) ?_
            refine WJ_takeP 21 rfl (by kernel_rfl) (Rd_move rfl) rfl rfl rfl (hp _ _) ?_
            refine WJ_takeP 22 rfl (by kernel_rfl) (Rd_move rfl) rfl rfl rfl (hp _ _) ?_
            refine WJ_takeP 23 rfl (by kernel_rfl) (Rd_addN rfl rfl) rfl rfl rfl (hp _ _) ?_
            refine WJ_takeP 24 rfl (by kernel_rfl) (Rd_geqN rfl rfl) rfl rfl rfl (hp _ _) ?_
            refine WJ_takeP 25 rfl (by kernel_rfl) (Rd_move rfl) rfl rfl rfl (hp _ _) ?_
            refine WJ_bool 62 rfl (fun hg20 => ?_) (fun hg20 => ?_)
            · try simp only [decide_eq_true_eq, decide_eq_false_iff_not, Bool.not_eq_true', Bool.not_eq_false', Bool.not_eq_true, Bool.not_eq_false, Int.not_lt, Int.not_le, Nat.not_lt, Nat.not_le, Decidable.not_not, ne_eq] at hg20
              have q2 := hg20
              refine WJ_tk 26 (Rd_loadW rfl tk42) hp ?_ rfl (by kernel_rfl) rfl rfl rfl
              refine WJ_takeP 27 rfl (by kernel_rfl) (Rd_move rfl) rfl rfl rfl (hp _ _) ?_
              refine WJ_takeP 28 rfl (by kernel_rfl) (Rd_move rfl) rfl rfl rfl (hp _ _) ?_
              refine WJ_takeP 29 rfl (by kernel_rfl) (Rd_subN rfl rfl) rfl rfl rfl (hp _ _) ?_
              refine WJ_takeP 30 rfl (by kernel_rfl) (Rd_convNU rfl ikd3_24 (h' := uk32)) rfl rfl rfl (hp _ _) ?_
              refine WJ_all (rs := [31]) (by kernel_rfl) rfl ?_
              refine WI_one ?_
              refine WI_ac rfl (Ac_call cf93 rfl (hs := padT_ct (x := BitVec.ofNat 32 (i' + 1 - (wdM n))))) rfl rfl rfl rfl ?_
              rintro _ _ ⟨⟨⟩, rfl, hA⟩
              simp only [List.cons_append, List.nil_append] at hA
              replace hA := hA.symm
              subst hA
              refine ⟨(fun _ => (by repeat (first | with_reducible exact Sub.refl | with_reducible exact Sub.nil | with_reducible refine Sub.cons (by repeat (first | with_reducible exact Ext.here | with_reducible apply Ext.there)) ?_ | with_reducible refine Sub.tail ?_))), ?_⟩
              refine WJ_takeP 32 rfl (by kernel_rfl) (Rd_neW rfl rfl ais42) rfl rfl rfl (hp _ _) ?_
              refine WJ_takeP 33 rfl (by kernel_rfl) (Rd_pickT rfl rfl) rfl rfl rfl (hp _ _) ?_
              refine WJ_takeP 34 rfl (by kernel_rfl) (Rd_pickF rfl rfl) rfl rfl rfl (hp _ _) ?_
              refine WJ_done (by kernel_rfl) ?_
              refine Ps_next hK16 ?_
              refine WC_cond rfl (fun hc3 => ?_) (fun hc3 => ?_)
              · try simp only [decide_eq_true_eq, decide_eq_false_iff_not, Bool.not_eq_true', Bool.not_eq_false', Bool.not_eq_true, Bool.not_eq_false, Int.not_lt, Int.not_le, Nat.not_lt, Nat.not_le, Decidable.not_not, ne_eq] at hc3
                have hb := by first | exact bad_1 (n := n) (ns := ls) (x := i' + 1) q0 q1 | exact bad_2 (n := n) (ns := ls) (x := i' + 1) q2 hc3
                obtain ⟨e1, e2, e3⟩ := lv_bad (ns := ls) hc0 hc1 hc2 hb hg'
                rw [e1, e2, e3] at hret
                refine WC_imp (fun w h => sat_nil (e := 32) (T := 42) (f := fD) h) ?_
                refine WC_sr fun K21 hK21 => ?_
                refine WL_rd (Rd_move rfl) rfl rfl rfl ?_
                refine WL_rd (Rd_assign (v := sl none 0 0) rfl) rfl rfl rfl ?_
                refine WL_rd (Rd_assign rfl) rfl rfl rfl ?_
                refine WL_rd (Rd_assign rfl) rfl rfl rfl ?_
                refine WL_end hK21 ?_
                refine WC_ret ?_
                first | exact hret.go (none, 0) (Rs3 rfl rfl rfl rfl) | exact hret.goE (a82, cap82) (Rs3 rfl rfl rfl rfl) rfl
              · try simp only [decide_eq_true_eq, decide_eq_false_iff_not, Bool.not_eq_true', Bool.not_eq_false', Bool.not_eq_true, Bool.not_eq_false, Int.not_lt, Int.not_le, Nat.not_lt, Nat.not_le, Decidable.not_not, ne_eq] at hc3
                have hb : bad n (wdM n) ls (i' + 1) = false := by first | exact good_1 (x := i' + 1) q0 q1 | exact good_2 (x := i' + 1) (by omega) hc3 | exact good_3 (by omega) (by omega)
                refine WC_skip ?_
                refine Ps_next hK13 ?_
                refine WC_region ?_
                refine WL_rd (Rd_addN (j := 1) rfl rfl) rfl rfl rfl ?_
                refine WL_rd (Rd_move rfl) rfl rfl rfl ?_
                refine WL_nil ?_
                refine Ps_wk (by (try simp only [List.cons_append, List.nil_append]); repeat (first | with_reducible exact Wk.nil | refine Wk.cons (by first | rfl | (simp only [List.length_append, List.length_cons, List.length_nil, List.length_replicate, Nat.zero_add]; rfl) | (simp; done)) ?_)) (by (try simp only [List.cons_append, List.nil_append]); repeat (first | with_reducible exact Sub.refl | with_reducible exact Sub.nil | with_reducible refine Sub.cons (by repeat (first | with_reducible exact Ext.here | with_reducible apply Ext.there)) ?_ | with_reducible refine Sub.tail ?_)) (hK10 (i' + 1) (⟨by omega, fun x h1 h2 => by rcases Nat.lt_or_ge i' x with z | z; (obtain rfl : x = i' + 1 := by omega); exact hb; exact hg' x h1 z⟩) (by omega))
            · try simp only [decide_eq_true_eq, decide_eq_false_iff_not, Bool.not_eq_true', Bool.not_eq_false', Bool.not_eq_true, Bool.not_eq_false, Int.not_lt, Int.not_le, Nat.not_lt, Nat.not_le, Decidable.not_not, ne_eq] at hg20
              have q2 := hg20
              refine WJ_skip 26 rfl (by kernel_rfl) rfl rfl rfl (hp _ _) ?_
              refine WJ_skip 27 rfl (by kernel_rfl) rfl rfl rfl (hp _ _) ?_
              refine WJ_skip 28 rfl (by kernel_rfl) rfl rfl rfl (hp _ _) ?_
              refine WJ_skip 29 rfl (by kernel_rfl) rfl rfl rfl (hp _ _) ?_
              refine WJ_skip 30 rfl (by kernel_rfl) rfl rfl rfl (hp _ _) ?_
              refine WJ_all (rs := [31]) (by kernel_rfl) rfl ?_
              refine WI_one ?_
              refine WI_skip rfl rfl rfl rfl (fun _ => (by repeat (first | with_reducible exact Sub.refl | with_reducible exact Sub.nil | with_reducible refine Sub.cons (by repeat (first | with_reducible exact Ext.here | with_reducible apply Ext.there)) ?_ | with_reducible refine Sub.tail ?_))) ?_
              refine WJ_skip 32 rfl (by kernel_rfl) rfl rfl rfl (hp _ _) ?_
              refine WJ_takeP 33 rfl (by kernel_rfl) (Rd_pickF rfl rfl) rfl rfl rfl (hp _ _) ?_
              refine WJ_takeP 34 rfl (by kernel_rfl) (Rd_pickF rfl rfl) rfl rfl rfl (hp _ _) ?_
              refine WJ_done (by kernel_rfl) ?_
              refine Ps_next hK16 ?_
              refine WC_condF rfl ?_
              have hb : bad n (wdM n) ls (i' + 1) = false := by first | exact good_1 (x := i' + 1) q0 q1 | exact good_2 (x := i' + 1) (by omega) hc3 | exact good_3 (by omega) (by omega)
              refine WC_skip ?_
              refine Ps_next hK13 ?_
              refine WC_region ?_
              refine WL_rd (Rd_addN (j := 1) rfl rfl) rfl rfl rfl ?_
              refine WL_rd (Rd_move rfl) rfl rfl rfl ?_
              refine WL_nil ?_
              refine Ps_wk (by (try simp only [List.cons_append, List.nil_append]); repeat (first | with_reducible exact Wk.nil | refine Wk.cons (by first | rfl | (simp only [List.length_append, List.length_cons, List.length_nil, List.length_replicate, Nat.zero_add]; rfl) | (simp; done)) ?_)) (by (try simp only [List.cons_append, List.nil_append]); repeat (first | with_reducible exact Sub.refl | with_reducible exact Sub.nil | with_reducible refine Sub.cons (by repeat (first | with_reducible exact Ext.here | with_reducible apply Ext.there)) ?_ | with_reducible refine Sub.tail ?_)) (hK10 (i' + 1) (⟨by omega, fun x h1 h2 => by rcases Nat.lt_or_ge i' x with z | z; (obtain rfl : x = i' + 1 := by omega); exact hb; exact hg' x h1 z⟩) (by omega))
        · try simp only [decide_eq_true_eq, decide_eq_false_iff_not, Bool.not_eq_true', Bool.not_eq_false', Bool.not_eq_true, Bool.not_eq_false, Int.not_lt, Int.not_le, Nat.not_lt, Nat.not_le, Decidable.not_not, ne_eq] at hc2
          obtain ⟨e1, e2, e3⟩ := lv_good (ns := ls) hc0 hc1 (fun x h1 h2 => hg' x h1 (by omega))
          rw [e1, e2, e3] at hret
          refine WC_exit ?_
          refine Ps_next hK8 ?_
          refine WC_sr fun K22 hK22 => ?_
          refine WL_rd (Rd_move rfl) rfl rfl rfl ?_
          refine WL_rd (Rd_move rfl) rfl rfl rfl ?_
          refine WL_rd (Rd_subN (j := 1) rfl rfl) rfl rfl rfl ?_
          refine WL_rd (Rd_move rfl) rfl rfl rfl ?_
          refine WL_rd (Rd_subN (j := 1) rfl rfl) rfl rfl rfl ?_
          refine WL_rd (Rd_move rfl) rfl rfl rfl ?_
          refine WL_rd (Rd_addN rfl rfl) rfl rfl rfl ?_
          refine WL_rd (Rd_slice_sv ((wdM n) - 1) ((wdM n) - 1 + n) rfl ⟨_, rfl⟩ ⟨_, rfl⟩ ud76 sz42 (hA := hS)) rfl rfl rfl ?_
          refine WL_ac (Ac_call cf113 rfl (hs := cloneD_ct (X := X) (hS := hS.sub (lo := (wdM n) - 1) (hi := (wdM n) - 1 + n) (by omega) (by omega)) (hl := by rw [List.length_drop, List.length_take]; omega))) rfl rfl rfl ?_
          rintro _ _ ⟨⟨a82, cap82⟩, rfl, hA⟩
          simp only [List.cons_append, List.nil_append] at hA
          replace hA := hA.symm
          subst hA
          rw [show (ls.take ((wdM n) - 1 + n)).drop ((wdM n) - 1) = (ls.drop ((wdM n) - 1)).take n from by rw [List.drop_take, Nat.add_sub_cancel_left]]
          refine WL_rd (Rd_assign rfl) rfl rfl rfl ?_
          refine WL_rd (Rd_assign rfl) rfl rfl rfl ?_
          refine WL_rd (Rd_assign rfl) rfl rfl rfl ?_
          refine WL_end hK22 ?_
          refine WC_ret ?_
          first | exact hret.go (none, 0) (Rs3 rfl rfl rfl rfl) | exact hret.goE (a82, cap82) (Rs3 rfl rfl rfl rfl) rfl
end Go.Proofs.Ythkchjcodibaeaa
