/-
  Contracts of functions that the claim reaches, or the logic and the plain laws that they rest on, or the row over them. (Conditions: none beyond the statement.)
-/
import Derived.Test.YtgkpbeikcpecbaaPqTcA
set_option linter.all false
namespace Go.Proofs.Ytgkpbeikcpecbaa
open Go.RowKit Go.SL Go.ShM
set_option maxHeartbeats 1000000
set_option maxRecDepth 20000
set_option linter.all false
theorem cf185 : cfn Try.prog 185 = true := by kernel_rfl
theorem cf186 : cfn Try.prog 186 = true := by kernel_rfl
theorem place_ct {n l : Int}  : Ct Try.prog 185 [.int .i64 n, .int .i64 l] [] (fun _ : Unit => .int .i64 (((ndE n l) : Nat) : Int)) (fun _ => []) := by
  refine Ct_body (n := 15) Try.func185 rfl rfl rfl fun F w0 Q hret hnorm hp => ?_
  change WC _ _ _ _ _ _ _ (F)
  refine WC_sr fun K1 hK1 => ?_
  refine WL_rd (Rd_assign rfl) rfl rfl rfl ?_
  refine WL_end hK1 ?_
  refine WC_seq fun K2 hK2 => ?_
  refine WC_sr fun K3 hK3 => ?_
  refine WL_rd (Rd_move rfl) rfl rfl rfl ?_
  refine WL_ac (Ac_call cf135 rfl (hs := widthR_ct (n := n))) rfl rfl rfl ?_
  rintro _ _ ⟨⟨⟩, rfl, hA⟩
  simp only [List.cons_append, List.nil_append] at hA
  replace hA := hA.symm
  subst hA
  refine WL_rd (Rd_eqlN (j := 0) rfl rfl) rfl rfl rfl ?_
  refine WL_end hK3 ?_
  refine WC_cond rfl (fun hc0 => ?_) (fun hc0 => ?_)
  · try simp only [decide_eq_true_eq, decide_eq_false_iff_not, Bool.not_eq_true', Bool.not_eq_false', Bool.not_eq_true, Bool.not_eq_false, Int.not_lt, Int.not_le, Nat.not_lt, Nat.not_le, Decidable.not_not, ne_eq] at hc0
    have hw0 := wdM_0 hc0
    have e1 := (nd_w (n := n) (l := l) (by omega)).1
    rw [e1, hw0] at hret
    refine WC_sr fun K4 hK4 => ?_
    refine WL_rd (Rd_assign rfl) rfl rfl rfl ?_
    refine WL_end hK4 ?_
    refine WC_ret ?_
    exact hret.go () (Rs1 rfl rfl)
  · try simp only [decide_eq_true_eq, decide_eq_false_iff_not, Bool.not_eq_true', Bool.not_eq_false', Bool.not_eq_true, Bool.not_eq_false, Int.not_lt, Int.not_le, Nat.not_lt, Nat.not_le, Decidable.not_not, ne_eq] at hc0
    have hw0 := wdM_pos hc0
    refine WC_skip ?_
    refine Ps_next hK2 ?_
    refine WC_seq fun K5 hK5 => ?_
    refine WC_sr fun K6 hK6 => ?_
    refine WL_rd (Rd_move rfl) rfl rfl rfl ?_
    refine WL_rd (Rd_lss rfl rfl) rfl rfl rfl ?_
    refine WL_rd (Rd_move rfl) rfl rfl rfl ?_
    refine WL_bool 10 rfl (fun hg7 => ?_) (fun hg7 => ?_)
    · try simp only [decide_eq_true_eq, decide_eq_false_iff_not, Bool.not_eq_true', Bool.not_eq_false', Bool.not_eq_true, Bool.not_eq_false, Int.not_lt, Int.not_le, Nat.not_lt, Nat.not_le, Decidable.not_not, ne_eq] at hg7
      have q0 := hg7
      refine WL_skip rfl rfl rfl ?_
      refine WL_skip rfl rfl rfl ?_
      refine WL_skip rfl rfl rfl ?_
      refine WL_rd (Rd_pickT rfl rfl) rfl rfl rfl ?_
      refine WL_end hK6 ?_
      refine WC_condT rfl ?_
      have e1 := (nd_l (n := n) (l := l) hw0 (by omega)).1
      rw [e1] at hret
      refine WC_sr fun K8 hK8 => ?_
      refine WL_rd (Rd_assign rfl) rfl rfl rfl ?_
      refine WL_end hK8 ?_
      refine WC_ret ?_
      exact hret.go () (Rs1 rfl rfl)
    · try simp only [decide_eq_true_eq, decide_eq_false_iff_not, Bool.not_eq_true', Bool.not_eq_false', Bool.not_eq_true, Bool.not_eq_false, Int.not_lt, Int.not_le, Nat.not_lt, Nat.not_le, Decidable.not_not, ne_eq] at hg7
      have q0 := hg7
      refine WL_rd (Rd_move rfl) rfl rfl rfl ?_
      refine WL_rd (Rd_move rfl) rfl rfl rfl ?_
      refine WL_rd (Rd_geq rfl rfl) rfl rfl rfl ?_
      refine WL_rd (Rd_pickF rfl rfl) rfl rfl rfl ?_
      refine WL_end hK6 ?_
      refine WC_cond rfl (fun hc1 => ?_) (fun hc1 => ?_)
      · try simp only [decide_eq_true_eq, decide_eq_false_iff_not, Bool.not_eq_true', Bool.not_eq_false', Bool.not_eq_true, Bool.not_eq_false, Int.not_lt, Int.not_le, Nat.not_lt, Nat.not_le, Decidable.not_not, ne_eq] at hc1
        have e1 := (nd_l (n := n) (l := l) hw0 (by omega)).1
        rw [e1] at hret
        refine WC_sr fun K9 hK9 => ?_
        refine WL_rd (Rd_assign rfl) rfl rfl rfl ?_
        refine WL_end hK9 ?_
        refine WC_ret ?_
        exact hret.go () (Rs1 rfl rfl)
      · try simp only [decide_eq_true_eq, decide_eq_false_iff_not, Bool.not_eq_true', Bool.not_eq_false', Bool.not_eq_true, Bool.not_eq_false, Int.not_lt, Int.not_le, Nat.not_lt, Nat.not_le, Decidable.not_not, ne_eq] at hc1
        have e1 := (nd_ok (n := n) (l := l) hw0 (by omega) (by omega)).1
        rw [e1] at hret
        refine WC_skip ?_
        refine Ps_next hK5 ?_
        refine WC_sr fun K10 hK10 => ?_
        refine WL_rd (Rd_assign rfl) rfl rfl rfl ?_
        refine WL_end hK10 ?_
        refine WC_ret ?_
        exact hret.go () (Rs1 rfl rfl)

theorem rUp_ct {n l : Int}  : Ct Try.prog 186 [.int .i64 n, .int .i64 l] [] (fun g : Option Nat × Nat => sl g.1 (upL (ndM n l)).length g.2) (fun g => [arr g.1 g.2 1 3 eN (upL (ndM n l))]) := by
  refine Ct_body (n := 24) Try.func186 rfl rfl rfl fun F w0 Q hret hnorm hp => ?_
  change WC _ _ _ _ _ _ _ (F)
  have hnl := nd_le n l
  refine WC_sr fun K1 hK1 => ?_
  refine WL_rd (Rd_assign (v := sl none 0 0) rfl) rfl rfl rfl ?_
  refine WL_end hK1 ?_
  refine WC_sr fun K2 hK2 => ?_
  refine WL_rd (Rd_assign (v := sl none 0 0) rfl) rfl rfl rfl ?_
  refine WL_nilarr eN 1 3 ?_
  refine WL_end hK2 ?_
  refine WC_seq fun K3 hK3 => ?_
  refine WC_sr fun K4 hK4 => ?_
  refine WL_rd (Rd_move rfl) rfl rfl rfl ?_
  refine WL_rd (Rd_move rfl) rfl rfl rfl ?_
  refine WL_ac (Ac_call cf185 rfl (hs := place_ct (n := n) (l := l))) rfl rfl rfl ?_
  rintro _ _ ⟨⟨⟩, rfl, hA⟩
  simp only [List.cons_append, List.nil_append] at hA
  replace hA := hA.symm
  subst hA
  refine WL_rd (Rd_neqN (j := 0) rfl rfl) rfl rfl rfl ?_
  refine WL_end hK4 ?_
  refine WC_cond rfl (fun hc0 => ?_) (fun hc0 => ?_)
  · try simp only [decide_eq_true_eq, decide_eq_false_iff_not, Bool.not_eq_true', Bool.not_eq_false', Bool.not_eq_true, Bool.not_eq_false, Int.not_lt, Int.not_le, Nat.not_lt, Nat.not_le, Decidable.not_not, ne_eq] at hc0
    rw [nd_no hc0, upL_0] at hret
    refine WC_imp (fun w h => sat_nil (e := 1) (T := 3) (f := eN) h) ?_
    refine WC_sr fun K5 hK5 => ?_
    refine WL_rd (Rd_assign (v := sl none 0 0) rfl) rfl rfl rfl ?_
    refine WL_end hK5 ?_
    refine WC_ret ?_
    first | exact hret.go (none, 0) (Rs1 rfl rfl) | exact hret.go (a', cap') (Rs1 rfl rfl)
  · try simp only [decide_eq_true_eq, decide_eq_false_iff_not, Bool.not_eq_true', Bool.not_eq_false', Bool.not_eq_true, Bool.not_eq_false, Int.not_lt, Int.not_le, Nat.not_lt, Nat.not_le, Decidable.not_not, ne_eq] at hc0
    have hne := nd_eq hc0
    refine WC_skip ?_
    refine Ps_next hK3 ?_
    refine WC_seq fun K6 hK6 => ?_
    refine WC_sr fun K7 hK7 => ?_
    refine WL_rd (Rd_move rfl) rfl rfl rfl ?_
    refine WL_ac (Ac_call cf135 rfl (hs := widthR_ct (n := n))) rfl rfl rfl ?_
    rintro _ _ ⟨⟨⟩, rfl, hA⟩
    simp only [List.cons_append, List.nil_append] at hA
    replace hA := hA.symm
    subst hA
    refine WL_rd (Rd_move rfl) rfl rfl rfl ?_
    refine WL_rd (Rd_add' (r := ((ndM n l : Nat) : Int)) rfl rfl (wr64 (by omega) (by omega) (by omega))) rfl rfl rfl ?_
    refine WL_rd (Rd_assign rfl) rfl rfl rfl ?_
    refine WL_end hK7 ?_
    refine WC_block ?_
    refine WC_loopK (σ := Nat × (List Nat) × (Option Nat) × Nat) (fun ⟨i', out, a', cap'⟩ => [(5, sl a' out.length cap'), (6, .int .i64 ((i' : Nat) : Int))]) (fun ⟨i', out, a', cap'⟩ => [arr a' cap' 1 3 eN out]) (fun ⟨i', out, a', cap'⟩ => out ++ upL i' = (upL (ndM n l)) ∧ i' ≤ 1024 ∧ out.length + i' ≤ 2048) (fun ⟨i', out, a', cap'⟩ => i') ⟨ndM n l, [], none, 0⟩ [4, 23] (by repeat (first | exact Kep.nil | apply Kep.drop rfl | apply Kep.keep rfl)) (by (try dsimp only); repeat (first | with_reducible exact Gv.nil | (with_reducible apply Gv.cons; · (repeat (first | with_reducible exact Ext.here | with_reducible apply Ext.there))))) ?_ ?_ Sub.refl ?_
    · exact ⟨rfl, hnl, by simp; omega⟩
    · (try dsimp only); exact (Wk.cons (by first | rfl | (simp only [List.length_append, List.length_cons, List.length_nil, List.length_replicate, Nat.zero_add]; rfl) | (simp; done)) (Wk.cons (by first | rfl | (simp only [List.length_append, List.length_cons, List.length_nil, List.length_replicate, Nat.zero_add]; rfl) | (simp; done)) Wk.nil))
    · rintro ⟨i', out, a', cap'⟩ ⟨hup, hi, hol⟩ K8 hK8
      simp only [List.cons_append, List.nil_append]
      refine WC_seq fun K9 hK9 => ?_
      refine WC_sr fun K10 hK10 => ?_
      refine WL_rd (Rd_move rfl) rfl rfl rfl ?_
      refine WL_rd (Rd_geqN (j := 1) rfl rfl) rfl rfl rfl ?_
      refine WL_end hK10 ?_
      refine WC_cond rfl (fun hc1 => ?_) (fun hc1 => ?_)
      · try simp only [decide_eq_true_eq, decide_eq_false_iff_not, Bool.not_eq_true', Bool.not_eq_false', Bool.not_eq_true, Bool.not_eq_false, Int.not_lt, Int.not_le, Nat.not_lt, Nat.not_le, Decidable.not_not, ne_eq] at hc1
        rw [upL_gt (i := i') (by omega)] at hup
        refine WC_skip ?_
        refine Ps_next hK9 ?_
        refine WC_seq fun K11 hK11 => ?_
        refine WC_block ?_
        refine WC_region ?_
        refine WL_rd (Rd_move rfl) rfl rfl rfl ?_
        refine WL_rd (Rd_move rfl) rfl rfl rfl ?_
        refine WL_ac (Ac_bs1 rfl ud101 zr3 sz3) rfl rfl rfl ?_
        rintro _ _ ⟨b21, rfl, rfl⟩
        refine WL_ac (Ac_append1 (f := eN) encN i' rfl rfl ud101 ud101 el3) rfl rfl rfl ?_
        rintro _ _ ⟨a22, cap22, rfl, rfl⟩
        rw [show out.length + 1 = (out ++ [i']).length from by simp]
        refine WL_rd (Rd_assign rfl) rfl rfl rfl ?_
        refine WL_nil ?_
        refine Ps_next hK11 ?_
        refine WC_region ?_
        refine WL_rd (Rd_move rfl) rfl rfl rfl ?_
        refine WL_rd (Rd_quoN (j := 2) rfl rfl) rfl rfl rfl ?_
        refine WL_rd (Rd_assign rfl) rfl rfl rfl ?_
        refine WL_nil ?_
        refine Ps_wk (by (try simp only [List.cons_append, List.nil_append]); repeat (first | with_reducible exact Wk.nil | refine Wk.cons (by first | rfl | (simp only [List.length_append, List.length_cons, List.length_nil, List.length_replicate, Nat.zero_add]; rfl) | (simp; done)) ?_)) (by (try simp only [List.cons_append, List.nil_append]); repeat (first | with_reducible exact Sub.refl | with_reducible exact Sub.nil | with_reducible refine Sub.cons (by repeat (first | with_reducible exact Ext.here | with_reducible apply Ext.there)) ?_ | with_reducible refine Sub.tail ?_)) (hK8 ⟨i' / 2, out ++ [i'], a22, cap22⟩ (⟨by (try dsimp only); rw [List.append_assoc]; exact hup, by (try dsimp only); omega, by (try dsimp only); rw [List.length_append, List.length_singleton]; omega⟩) (by (try dsimp only); omega))
      · try simp only [decide_eq_true_eq, decide_eq_false_iff_not, Bool.not_eq_true', Bool.not_eq_false', Bool.not_eq_true, Bool.not_eq_false, Int.not_lt, Int.not_le, Nat.not_lt, Nat.not_le, Decidable.not_not, ne_eq] at hc1
        obtain rfl : i' = 0 := by omega
        rw [upL_0, List.append_nil] at hup
        subst hup
        refine WC_exit ?_
        refine Ps_next hK6 ?_
        refine WC_sr fun K12 hK12 => ?_
        refine WL_rd (Rd_move rfl) rfl rfl rfl ?_
        refine WL_rd (Rd_assign rfl) rfl rfl rfl ?_
        refine WL_end hK12 ?_
        refine WC_ret ?_
        first | exact hret.go (none, 0) (Rs1 rfl rfl) | exact hret.go (a', cap') (Rs1 rfl rfl)

theorem rChain_ct {n l : Int}  : Ct Try.prog 130 [.int .i64 n, .int .i64 l] [] (fun g : Option Nat × Nat => .tuple #[sl g.1 (chL (ndM n l)).length g.2, .int .i64 (((ndE n l) : Nat) : Int)]) (fun g => [arr g.1 g.2 1 3 eN (chL (ndM n l))]) := by
  refine Ct_body (n := 53) Try.func130 rfl rfl rfl fun F w0 Q hret hnorm hp => ?_
  change WC _ _ _ _ _ _ _ (F)
  have hnl := nd_le n l
  have hul := upL_lenle (ndM n l)
  refine WC_sr fun K1 hK1 => ?_
  refine WL_rd (Rd_assign (v := sl none 0 0) rfl) rfl rfl rfl ?_
  refine WL_rd (Rd_assign rfl) rfl rfl rfl ?_
  refine WL_end hK1 ?_
  refine WC_sr fun K2 hK2 => ?_
  refine WL_rd (Rd_move rfl) rfl rfl rfl ?_
  refine WL_rd (Rd_move rfl) rfl rfl rfl ?_
  refine WL_ac (Ac_call cf185 rfl (hs := place_ct (n := n) (l := l))) rfl rfl rfl ?_
  rintro _ _ ⟨⟨⟩, rfl, hA⟩
  simp only [List.cons_append, List.nil_append] at hA
  replace hA := hA.symm
  subst hA
  refine WL_rd (Rd_assign rfl) rfl rfl rfl ?_
  refine WL_end hK2 ?_
  refine WC_seq fun K3 hK3 => ?_
  refine WC_sr fun K4 hK4 => ?_
  refine WL_rd (Rd_move rfl) rfl rfl rfl ?_
  refine WL_rd (Rd_neqN (j := 0) rfl rfl) rfl rfl rfl ?_
  refine WL_end hK4 ?_
  refine WC_cond rfl (fun hc0 => ?_) (fun hc0 => ?_)
  · try simp only [decide_eq_true_eq, decide_eq_false_iff_not, Bool.not_eq_true', Bool.not_eq_false', Bool.not_eq_true, Bool.not_eq_false, Int.not_lt, Int.not_le, Nat.not_lt, Nat.not_le, Decidable.not_not, ne_eq] at hc0
    rw [nd_no hc0, chL_le (by omega)] at hret
    refine WC_imp (fun w h => sat_nil (e := 1) (T := 3) (f := eN) h) ?_
    refine WC_sr fun K5 hK5 => ?_
    refine WL_rd (Rd_move rfl) rfl rfl rfl ?_
    refine WL_rd (Rd_assign (v := sl none 0 0) rfl) rfl rfl rfl ?_
    refine WL_rd (Rd_assign rfl) rfl rfl rfl ?_
    refine WL_end hK5 ?_
    refine WC_ret ?_
    first | exact hret.go (none, 0) (Rs2 rfl rfl rfl) | exact hret.go (a', cap') (Rs2 rfl rfl rfl)
  · try simp only [decide_eq_true_eq, decide_eq_false_iff_not, Bool.not_eq_true', Bool.not_eq_false', Bool.not_eq_true, Bool.not_eq_false, Int.not_lt, Int.not_le, Nat.not_lt, Nat.not_le, Decidable.not_not, ne_eq] at hc0
    rw [hc0] at hret
    refine WC_skip ?_
    refine Ps_next hK3 ?_
    refine WC_sr fun K6 hK6 => ?_
    refine WL_rd (Rd_assign (v := sl none 0 0) rfl) rfl rfl rfl ?_
    refine WL_nilarr eN 1 3 ?_
    refine WL_end hK6 ?_
    refine WC_sr fun K7 hK7 => ?_
    refine WL_rd (Rd_move rfl) rfl rfl rfl ?_
    refine WL_rd (Rd_move rfl) rfl rfl rfl ?_
    refine WL_ac (Ac_call cf186 rfl (hs := rUp_ct (n := n) (l := l))) rfl rfl rfl ?_
    rintro _ _ ⟨⟨ua, uc⟩, rfl, hA⟩
    simp only [List.cons_append, List.nil_append] at hA
    replace hA := hA.symm
    subst hA
    refine WL_rd (Rd_assign rfl) rfl rfl rfl ?_
    refine WL_end hK7 ?_
    refine WC_seq fun K8 hK8 => ?_
    refine WC_sr fun K9 hK9 => ?_
    refine WL_rd (Rd_assign rfl) rfl rfl rfl ?_
    refine WL_end hK9 ?_
    refine WC_block ?_
    refine WC_loopK (σ := Nat × (List Nat) × (Option Nat) × Nat) (fun ⟨k, out, a', cap'⟩ => [(7, sl a' out.length cap'), (9, .int .i64 ((k : Nat) : Int))]) (fun ⟨k, out, a', cap'⟩ => [arr a' cap' 1 3 eN out]) (fun ⟨k, out, a', cap'⟩ => k ≤ (upL (ndM n l)).length ∧ out ++ chR ((upL (ndM n l)).drop k) = chL (ndM n l) ∧ out.length ≤ k) (fun ⟨k, out, a', cap'⟩ => (upL (ndM n l)).length - k) ⟨0, [], none, 0⟩ [4, 5, 8, 52] (by repeat (first | exact Kep.nil | apply Kep.drop rfl | apply Kep.keep rfl)) (by (try dsimp only); repeat (first | with_reducible exact Gv.nil | (with_reducible apply Gv.cons; · (repeat (first | with_reducible exact Ext.here | with_reducible apply Ext.there))))) ?_ ?_ Sub.refl ?_
    · exact ⟨Nat.zero_le _, chR_up _, Nat.le_refl _⟩
    · (try dsimp only); exact (Wk.cons (by first | rfl | (simp only [List.length_append, List.length_cons, List.length_nil, List.length_replicate, Nat.zero_add]; rfl) | (simp; done)) (Wk.cons (by first | rfl | (simp only [List.length_append, List.length_cons, List.length_nil, List.length_replicate, Nat.zero_add]; rfl) | (simp; done)) Wk.nil))
    · rintro ⟨k, out, a', cap'⟩ ⟨hk, hch, hol⟩ K10 hK10
      simp only [List.cons_append, List.nil_append]
      refine WC_seq fun K11 hK11 => ?_
      refine WC_sr fun K12 hK12 => ?_
      refine WL_rd (Rd_move rfl) rfl rfl rfl ?_
      refine WL_rd (Rd_move rfl) rfl rfl rfl ?_
      refine WL_rd (Rd_len rfl rfl ud101) rfl rfl rfl ?_
      refine WL_rd (Rd_lssN rfl rfl) rfl rfl rfl ?_
      refine WL_end hK12 ?_
      refine WC_cond rfl (fun hc1 => ?_) (fun hc1 => ?_)
      · try simp only [decide_eq_true_eq, decide_eq_false_iff_not, Bool.not_eq_true', Bool.not_eq_false', Bool.not_eq_true, Bool.not_eq_false, Int.not_lt, Int.not_le, Nat.not_lt, Nat.not_le, Decidable.not_not, ne_eq] at hc1
        refine WC_some (a := ua) (by repeat (first | with_reducible exact Has.here | with_reducible refine Has.there ?_)) (by omega) (fun gu hgu _ => ?_)
        subst hgu
        have hdk := drop_at (l := (upL (ndM n l))) (i := k) (by omega)
        have hux := upL_le (ndM n l) (Nat.le_refl _) ((upL (ndM n l)).getD k 0) (mem_getD (by omega))
        refine WC_skip ?_
        refine Ps_next hK11 ?_
        refine WC_seq fun K13 hK13 => ?_
        refine WC_block ?_
        refine WC_sr fun K14 hK14 => ?_
        refine WL_rd (Rd_move rfl) rfl rfl rfl ?_
        refine WL_rd (Rd_move rfl) rfl rfl rfl ?_
        refine WL_rd (Rd_index k rfl rfl ud101 sz3 (hj := by omega)) rfl rfl rfl ?_
        refine WL_rd (Rd_load_arr (i := k) (j := 0) rfl tk3 (hl := at_N (by omega))) rfl rfl rfl ?_
        refine WL_rd (Rd_remN (j := 2) rfl rfl) rfl rfl rfl ?_
        refine WL_rd (Rd_eqlN (j := 0) rfl rfl) rfl rfl rfl ?_
        refine WL_end hK14 ?_
        refine WC_cond rfl (fun hc2 => ?_) (fun hc2 => ?_)
        · try simp only [decide_eq_true_eq, decide_eq_false_iff_not, Bool.not_eq_true', Bool.not_eq_false', Bool.not_eq_true, Bool.not_eq_false, Int.not_lt, Int.not_le, Nat.not_lt, Nat.not_le, Decidable.not_not, ne_eq] at hc2
          rw [hdk, chR_even hc2] at hch
          refine WC_region ?_
          refine WL_rd (Rd_move rfl) rfl rfl rfl ?_
          refine WL_rd (Rd_move rfl) rfl rfl rfl ?_
          refine WL_rd (Rd_move rfl) rfl rfl rfl ?_
          refine WL_rd (Rd_index k rfl rfl ud101 sz3 (hj := by omega)) rfl rfl rfl ?_
          refine WL_rd (Rd_load_arr (i := k) (j := 0) rfl tk3 (hl := at_N (by omega))) rfl rfl rfl ?_
          refine WL_rd (Rd_addN (j := 1) rfl rfl) rfl rfl rfl ?_
          refine WL_ac (Ac_bs1 rfl ud101 zr3 sz3) rfl rfl rfl ?_
          rintro _ _ ⟨b37, rfl, rfl⟩
          refine WL_ac (Ac_append1 (f := eN) encN (((upL (ndM n l)).getD k 0) + 1) rfl rfl ud101 ud101 el3) rfl rfl rfl ?_
          rintro _ _ ⟨a38, cap38, rfl, rfl⟩
          rw [show out.length + 1 = (out ++ [((upL (ndM n l)).getD k 0) + 1]).length from by simp]
          refine WL_rd (Rd_assign rfl) rfl rfl rfl ?_
          refine WL_nil ?_
          refine Ps_next hK13 ?_
          refine WC_region ?_
          refine WL_rd (Rd_move rfl) rfl rfl rfl ?_
          refine WL_rd (Rd_addN (j := 1) rfl rfl) rfl rfl rfl ?_
          refine WL_rd (Rd_assign rfl) rfl rfl rfl ?_
          refine WL_nil ?_
          refine Ps_wk (by (try simp only [List.cons_append, List.nil_append]); repeat (first | with_reducible exact Wk.nil | refine Wk.cons (by first | rfl | (simp only [List.length_append, List.length_cons, List.length_nil, List.length_replicate, Nat.zero_add]; rfl) | (simp; done)) ?_)) (by (try simp only [List.cons_append, List.nil_append]); repeat (first | with_reducible exact Sub.refl | with_reducible exact Sub.nil | with_reducible refine Sub.cons (by repeat (first | with_reducible exact Ext.here | with_reducible apply Ext.there)) ?_ | with_reducible refine Sub.tail ?_)) (hK10 ⟨k + 1, out ++ [((upL (ndM n l)).getD k 0) + 1], a38, cap38⟩ (⟨by (try dsimp only); omega, by (try dsimp only); rw [List.append_assoc]; exact hch, by (try dsimp only); rw [List.length_append, List.length_singleton]; omega⟩) (by (try dsimp only); omega))
        · try simp only [decide_eq_true_eq, decide_eq_false_iff_not, Bool.not_eq_true', Bool.not_eq_false', Bool.not_eq_true, Bool.not_eq_false, Int.not_lt, Int.not_le, Nat.not_lt, Nat.not_le, Decidable.not_not, ne_eq] at hc2
          refine WC_sr fun K15 hK15 => ?_
          refine WL_rd (Rd_move rfl) rfl rfl rfl ?_
          refine WL_rd (Rd_move rfl) rfl rfl rfl ?_
          refine WL_rd (Rd_index k rfl rfl ud101 sz3 (hj := by omega)) rfl rfl rfl ?_
          refine WL_rd (Rd_load_arr (i := k) (j := 0) rfl tk3 (hl := at_N (by omega))) rfl rfl rfl ?_
          refine WL_rd (Rd_gtrN (j := 1) rfl rfl) rfl rfl rfl ?_
          refine WL_end hK15 ?_
          refine WC_cond rfl (fun hc3 => ?_) (fun hc3 => ?_)
          · try simp only [decide_eq_true_eq, decide_eq_false_iff_not, Bool.not_eq_true', Bool.not_eq_false', Bool.not_eq_true, Bool.not_eq_false, Int.not_lt, Int.not_le, Nat.not_lt, Nat.not_le, Decidable.not_not, ne_eq] at hc3
            rw [hdk, chR_odd hc2 hc3] at hch
            refine WC_region ?_
            refine WL_rd (Rd_move rfl) rfl rfl rfl ?_
            refine WL_rd (Rd_move rfl) rfl rfl rfl ?_
            refine WL_rd (Rd_move rfl) rfl rfl rfl ?_
            refine WL_rd (Rd_index k rfl rfl ud101 sz3 (hj := by omega)) rfl rfl rfl ?_
            refine WL_rd (Rd_load_arr (i := k) (j := 0) rfl tk3 (hl := at_N (by omega))) rfl rfl rfl ?_
            refine WL_rd (Rd_subN (j := 1) rfl rfl) rfl rfl rfl ?_
            refine WL_ac (Ac_bs1 rfl ud101 zr3 sz3) rfl rfl rfl ?_
            rintro _ _ ⟨b50, rfl, rfl⟩
            refine WL_ac (Ac_append1 (f := eN) encN (((upL (ndM n l)).getD k 0) - 1) rfl rfl ud101 ud101 el3) rfl rfl rfl ?_
            rintro _ _ ⟨a51, cap51, rfl, rfl⟩
            rw [show out.length + 1 = (out ++ [((upL (ndM n l)).getD k 0) - 1]).length from by simp]
            refine WL_rd (Rd_assign rfl) rfl rfl rfl ?_
            refine WL_nil ?_
            refine Ps_next hK13 ?_
            refine WC_region ?_
            refine WL_rd (Rd_move rfl) rfl rfl rfl ?_
            refine WL_rd (Rd_addN (j := 1) rfl rfl) rfl rfl rfl ?_
            refine WL_rd (Rd_assign rfl) rfl rfl rfl ?_
            refine WL_nil ?_
            refine Ps_wk (by (try simp only [List.cons_append, List.nil_append]); repeat (first | with_reducible exact Wk.nil | refine Wk.cons (by first | rfl | (simp only [List.length_append, List.length_cons, List.length_nil, List.length_replicate, Nat.zero_add]; rfl) | (simp; done)) ?_)) (by (try simp only [List.cons_append, List.nil_append]); repeat (first | with_reducible exact Sub.refl | with_reducible exact Sub.nil | with_reducible refine Sub.cons (by repeat (first | with_reducible exact Ext.here | with_reducible apply Ext.there)) ?_ | with_reducible refine Sub.tail ?_)) (hK10 ⟨k + 1, out ++ [((upL (ndM n l)).getD k 0) - 1], a51, cap51⟩ (⟨by (try dsimp only); omega, by (try dsimp only); rw [List.append_assoc]; exact hch, by (try dsimp only); rw [List.length_append, List.length_singleton]; omega⟩) (by (try dsimp only); omega))
          · try simp only [decide_eq_true_eq, decide_eq_false_iff_not, Bool.not_eq_true', Bool.not_eq_false', Bool.not_eq_true, Bool.not_eq_false, Int.not_lt, Int.not_le, Nat.not_lt, Nat.not_le, Decidable.not_not, ne_eq] at hc3
            rw [hdk, chR_one hc2 (by omega)] at hch
            refine WC_skip ?_
            refine Ps_next hK13 ?_
            refine WC_region ?_
            refine WL_rd (Rd_move rfl) rfl rfl rfl ?_
            refine WL_rd (Rd_addN (j := 1) rfl rfl) rfl rfl rfl ?_
            refine WL_rd (Rd_assign rfl) rfl rfl rfl ?_
            refine WL_nil ?_
            refine Ps_wk (by (try simp only [List.cons_append, List.nil_append]); repeat (first | with_reducible exact Wk.nil | refine Wk.cons (by first | rfl | (simp only [List.length_append, List.length_cons, List.length_nil, List.length_replicate, Nat.zero_add]; rfl) | (simp; done)) ?_)) (by (try simp only [List.cons_append, List.nil_append]); repeat (first | with_reducible exact Sub.refl | with_reducible exact Sub.nil | with_reducible refine Sub.cons (by repeat (first | with_reducible exact Ext.here | with_reducible apply Ext.there)) ?_ | with_reducible refine Sub.tail ?_)) (hK10 ⟨k + 1, out, a', cap'⟩ (⟨by (try dsimp only); omega, hch, by (try dsimp only); omega⟩) (by (try dsimp only); omega))
      · try simp only [decide_eq_true_eq, decide_eq_false_iff_not, Bool.not_eq_true', Bool.not_eq_false', Bool.not_eq_true, Bool.not_eq_false, Int.not_lt, Int.not_le, Nat.not_lt, Nat.not_le, Decidable.not_not, ne_eq] at hc1
        obtain rfl : k = (upL (ndM n l)).length := by omega
        rw [List.drop_length, show chR [] = [] from rfl, List.append_nil] at hch
        subst hch
        refine WC_exit ?_
        refine Ps_next hK8 ?_
        refine WC_sr fun K16 hK16 => ?_
        refine WL_rd (Rd_move rfl) rfl rfl rfl ?_
        refine WL_rd (Rd_assign rfl) rfl rfl rfl ?_
        refine WL_rd (Rd_assign rfl) rfl rfl rfl ?_
        refine WL_end hK16 ?_
        refine WC_ret ?_
        first | exact hret.go (none, 0) (Rs2 rfl rfl rfl) | exact hret.go (a', cap') (Rs2 rfl rfl rfl)
end Go.Proofs.Ytgkpbeikcpecbaa
