/-
  Contracts of functions that the claim reaches, or the logic and the plain laws that they rest on, or the row over them. (Conditions: none beyond the statement.)
-/
import Derived.Test.YthkchjcodibaeaaZqD
import Derived.Test.YthkchjcodibaeaaLibD
set_option linter.all false
namespace Go.Proofs.Ythkchjcodibaeaa
open Go.RowKit Go.SL Go.ShM
set_option maxHeartbeats 1000000
set_option maxRecDepth 20000
set_option linter.all false
theorem cf97 : cfn Try.prog 97 = true := by kernel_rfl
theorem cf99 : cfn Try.prog 99 = true := by kernel_rfl
theorem el42 : el Try.prog 42 = some (32, 32) := by kernel_rfl
theorem ud76 : Try.prog.underlying 76 = some (.slice 42) := by kernel_rfl
theorem widthY_ct {n : Nat} (h1 : 1 ≤ n) (h2 : n ≤ 512) : Ct Try.prog 97 [.int .i64 ((n : Nat) : Int)] [] (fun _ : Unit => .tuple #[.int .i64 (((wdM n) : Nat) : Int), .int .i64 0]) (fun _ => []) := by
  refine Ct_body (n := 17) Try.func97 rfl rfl rfl fun F w0 Q hret hnorm hp => ?_
  change WC _ _ _ _ _ _ _ (F)
  refine WC_sr fun K1 hK1 => ?_
  refine WL_rd (Rd_assign rfl) rfl rfl rfl ?_
  refine WL_rd (Rd_assign rfl) rfl rfl rfl ?_
  refine WL_end hK1 ?_
  refine WC_seq fun K2 hK2 => ?_
  refine WC_sr fun K3 hK3 => ?_
  refine WL_rd (Rd_move rfl) rfl rfl rfl ?_
  refine WL_rd (Rd_isF (Rd_lssN (j := 1) rfl rfl)) rfl rfl rfl ?_
  refine WL_rd (Rd_move rfl) rfl rfl rfl ?_
  refine WL_rd (Rd_move rfl) rfl rfl rfl ?_
  refine WL_rd (Rd_isF (Rd_gtrN (j := 512) rfl rfl)) rfl rfl rfl ?_
  refine WL_rd (Rd_pickF rfl rfl) rfl rfl rfl ?_
  refine WL_end hK3 ?_
  refine WC_condF rfl ?_
  refine WC_skip ?_
  refine Ps_next hK2 ?_
  refine WC_sr fun K4 hK4 => ?_
  refine WL_rd (Rd_assign rfl) rfl rfl rfl ?_
  refine WL_end hK4 ?_
  refine WC_seq fun K5 hK5 => ?_
  refine WC_block ?_
  have hp0 : (2:Nat) ^ 0 = 1 := rfl
  refine WC_loopK (σ := Nat) (fun k => [(4, .int .i64 (((2 ^ k) : Nat) : Int))]) (fun k => []) (fun k => k ≤ 9 ∧ (k = 0 ∨ 2 ^ (k - 1) < n)) (fun k => 9 - k) (0) [0, 2, 3, 16] (by repeat (first | exact Kep.nil | apply Kep.drop rfl | apply Kep.keep rfl)) (by (try dsimp only); repeat (first | with_reducible exact Gv.nil | (with_reducible apply Gv.cons; · (repeat (first | with_reducible exact Ext.here | with_reducible apply Ext.there))))) ?_ ?_ Sub.refl ?_
  · exact ⟨by omega, .inl rfl⟩
  · (try dsimp only); exact (Wk.cons (by first | rfl | (simp only [List.length_append, List.length_cons, List.length_nil, List.length_replicate, Nat.zero_add]; rfl) | (simp; done)) Wk.nil)
  · rintro k ⟨hk, hk2⟩ K6 hK6
    simp only [List.cons_append, List.nil_append]
    have hpk : 2 ^ k ≤ 512 := Nat.pow_le_pow_right (by omega) hk
    have hps : 2 ^ k * 2 = 2 ^ (k + 1) := rfl
    refine WC_seq fun K7 hK7 => ?_
    refine WC_sr fun K8 hK8 => ?_
    refine WL_rd (Rd_move rfl) rfl rfl rfl ?_
    refine WL_rd (Rd_move rfl) rfl rfl rfl ?_
    refine WL_rd (Rd_lssN rfl rfl) rfl rfl rfl ?_
    refine WL_end hK8 ?_
    refine WC_cond rfl (fun hc1 => ?_) (fun hc1 => ?_)
    · try simp only [decide_eq_true_eq, decide_eq_false_iff_not, Bool.not_eq_true', Bool.not_eq_false', Bool.not_eq_true, Bool.not_eq_false, Int.not_lt, Int.not_le, Nat.not_lt, Nat.not_le, Decidable.not_not, ne_eq] at hc1
      refine WC_skip ?_
      refine Ps_next hK7 ?_
      refine WC_block ?_
      refine WC_region ?_
      refine WL_rd (Rd_move rfl) rfl rfl rfl ?_
      refine WL_rd (Rd_mulN (j := 2) rfl rfl) rfl rfl rfl ?_
      rw [hps]
      refine WL_rd (Rd_assign rfl) rfl rfl rfl ?_
      refine WL_nil ?_
      refine Ps_wk (by (try simp only [List.cons_append, List.nil_append]); repeat (first | with_reducible exact Wk.nil | refine Wk.cons (by first | rfl | (simp only [List.length_append, List.length_cons, List.length_nil, List.length_replicate, Nat.zero_add]; rfl) | (simp; done)) ?_)) (by (try simp only [List.cons_append, List.nil_append]); repeat (first | with_reducible exact Sub.refl | with_reducible exact Sub.nil | with_reducible refine Sub.cons (by repeat (first | with_reducible exact Ext.here | with_reducible apply Ext.there)) ?_ | with_reducible refine Sub.tail ?_)) (hK6 (k + 1) (⟨by rcases Nat.lt_or_ge k 9 with q | q; omega; (have : k = 9 := by omega); subst this; omega, .inr hc1⟩) (by rcases Nat.lt_or_ge k 9 with q | q; omega; (have : k = 9 := by omega); subst this; omega))
    · try simp only [decide_eq_true_eq, decide_eq_false_iff_not, Bool.not_eq_true', Bool.not_eq_false', Bool.not_eq_true, Bool.not_eq_false, Int.not_lt, Int.not_le, Nat.not_lt, Nat.not_le, Decidable.not_not, ne_eq] at hc1
      refine WC_exit ?_
      refine Ps_next hK5 ?_
      refine WC_sr fun K9 hK9 => ?_
      refine WL_rd (Rd_move rfl) rfl rfl rfl ?_
      refine WL_rd (Rd_assign rfl) rfl rfl rfl ?_
      refine WL_rd (Rd_assign rfl) rfl rfl rfl ?_
      refine WL_end hK9 ?_
      refine WC_ret ?_
      exact hret.goE () (Rs2 rfl rfl rfl) (by rw [← wd_at h1 hk hk2 (by omega)])

theorem widthN_ct {n : Int} (h1 : n < 1 ∨ 512 < n) : Ct Try.prog 97 [.int .i64 n] [] (fun _ : Unit => .tuple #[.int .i64 0, .int .i64 110]) (fun _ => []) := by
  refine Ct_body (n := 17) Try.func97 rfl rfl rfl fun F w0 Q hret hnorm hp => ?_
  change WC _ _ _ _ _ _ _ (F)
  refine WC_sr fun K1 hK1 => ?_
  refine WL_rd (Rd_assign rfl) rfl rfl rfl ?_
  refine WL_rd (Rd_assign rfl) rfl rfl rfl ?_
  refine WL_end hK1 ?_
  refine WC_seq fun K2 hK2 => ?_
  refine WC_sr fun K3 hK3 => ?_
  refine WL_rd (Rd_move rfl) rfl rfl rfl ?_
  refine WL_rd (Rd_lss rfl rfl) rfl rfl rfl ?_
  refine WL_rd (Rd_move rfl) rfl rfl rfl ?_
  refine WL_bool 7 rfl (fun hg4 => ?_) (fun hg4 => ?_)
  · try simp only [decide_eq_true_eq, decide_eq_false_iff_not, Bool.not_eq_true', Bool.not_eq_false', Bool.not_eq_true, Bool.not_eq_false, Int.not_lt, Int.not_le, Nat.not_lt, Nat.not_le, Decidable.not_not, ne_eq] at hg4
    refine WL_skip rfl rfl rfl ?_
    refine WL_skip rfl rfl rfl ?_
    refine WL_rd (Rd_pickT rfl rfl) rfl rfl rfl ?_
    refine WL_end hK3 ?_
    refine WC_condT rfl ?_
    refine WC_sr fun K5 hK5 => ?_
    refine WL_rd (Rd_assign rfl) rfl rfl rfl ?_
    refine WL_rd (Rd_assign rfl) rfl rfl rfl ?_
    refine WL_end hK5 ?_
    refine WC_ret ?_
    exact hret.go () (Rs2 rfl rfl rfl)
  · try simp only [decide_eq_true_eq, decide_eq_false_iff_not, Bool.not_eq_true', Bool.not_eq_false', Bool.not_eq_true, Bool.not_eq_false, Int.not_lt, Int.not_le, Nat.not_lt, Nat.not_le, Decidable.not_not, ne_eq] at hg4
    refine WL_rd (Rd_move rfl) rfl rfl rfl ?_
    refine WL_rd (Rd_gtr rfl rfl) rfl rfl rfl ?_
    refine WL_rd (Rd_pickF rfl rfl) rfl rfl rfl ?_
    refine WL_end hK3 ?_
    refine WC_cond rfl (fun hc0 => ?_) (fun hc0 => ?_)
    · try simp only [decide_eq_true_eq, decide_eq_false_iff_not, Bool.not_eq_true', Bool.not_eq_false', Bool.not_eq_true, Bool.not_eq_false, Int.not_lt, Int.not_le, Nat.not_lt, Nat.not_le, Decidable.not_not, ne_eq] at hc0
      refine WC_sr fun K6 hK6 => ?_
      refine WL_rd (Rd_assign rfl) rfl rfl rfl ?_
      refine WL_rd (Rd_assign rfl) rfl rfl rfl ?_
      refine WL_end hK6 ?_
      refine WC_ret ?_
      exact hret.go () (Rs2 rfl rfl rfl)
    · try simp only [decide_eq_true_eq, decide_eq_false_iff_not, Bool.not_eq_true', Bool.not_eq_false', Bool.not_eq_true, Bool.not_eq_false, Int.not_lt, Int.not_le, Nat.not_lt, Nat.not_le, Decidable.not_not, ne_eq] at hc0
      omega

theorem width_ct {n : Int} : Ct Try.prog 97 [.int .i64 n] [] (fun _ : Unit => .tuple #[.int .i64 (((wdM n.toNat) : Nat) : Int), .int .i64 (((wdE n.toNat) : Nat) : Int)]) (fun _ => []) := by
  by_cases h : n < 1 ∨ 512 < n
  · obtain ⟨e1, e2⟩ := wd_no (n := n.toNat) (by omega)
    rw [e1, e2]
    exact widthN_ct (h1 := h)
  · obtain ⟨m, rfl⟩ := Int.eq_ofNat_of_zero_le (show 0 ≤ n by omega)
    have e2 := (wd_ok (n := m) (by omega) (by omega)).2.2.2.1
    rw [Int.toNat_natCast, e2]
    exact widthY_ct (h1 := by omega) (h2 := by omega)
theorem widthL_ct {n : Nat} : Ct Try.prog 97 [.int .i64 ((n : Nat) : Int)] [] (fun _ : Unit => .tuple #[.int .i64 (((wdM n) : Nat) : Int), .int .i64 (((wdE n) : Nat) : Int)]) (fun _ => []) := by
  have h := width_ct (n := (n : Int))
  rwa [Int.toNat_natCast] at h

theorem build_ct {X : Asn} {v : Value} {ls : List Dg} {ao : Option Addr} {cap2 : Nat} (hS : Sv [X] v 32 fD ls ao cap2 := by assumption) : Ct Try.prog 54 [v] [X] (fun g : Option Nat × Nat => .tuple #[sl g.1 (bldM ls).length g.2, .int .i64 (((wdE ls.length) : Nat) : Int)]) (fun g => [X, arr g.1 g.2 32 42 fD (bldM ls)]) := by
  refine Ct_body (n := 67) Try.func54 rfl rfl rfl fun F w0 Q hret hnorm hp => ?_
  change WC _ _ _ _ _ _ _ (_ :: F)
  refine WC_sr fun K1 hK1 => ?_
  refine WL_rd (Rd_assign (v := sl none 0 0) rfl) rfl rfl rfl ?_
  refine WL_rd (Rd_assign rfl) rfl rfl rfl ?_
  refine WL_end hK1 ?_
  refine WC_sr fun K2 hK2 => ?_
  refine WL_rd (Rd_move rfl) rfl rfl rfl ?_
  refine WL_rd (Rd_len_sv rfl rfl ud76) rfl rfl rfl ?_
  refine WL_ac (Ac_call cf97 rfl (hs := widthL_ct (n := ls.length))) rfl rfl rfl ?_
  rintro _ _ ⟨⟨⟩, rfl, hA⟩
  simp only [List.cons_append, List.nil_append] at hA
  replace hA := hA.symm
  subst hA
  refine WL_rd (Rd_move rfl) rfl rfl rfl ?_
  refine WL_rd (Rd_ext0 rfl) rfl rfl rfl ?_
  refine WL_rd (Rd_ext1 rfl) rfl rfl rfl ?_
  refine WL_rd (Rd_assign rfl) rfl rfl rfl ?_
  refine WL_rd (Rd_assign rfl) rfl rfl rfl ?_
  refine WL_end hK2 ?_
  refine WC_seq fun K3 hK3 => ?_
  refine WC_sr fun K4 hK4 => ?_
  refine WL_rd (Rd_move rfl) rfl rfl rfl ?_
  refine WL_rd (Rd_neqN (j := 0) rfl rfl) rfl rfl rfl ?_
  refine WL_end hK4 ?_
  refine WC_cond rfl (fun hc0 => ?_) (fun hc0 => ?_)
  · try simp only [decide_eq_true_eq, decide_eq_false_iff_not, Bool.not_eq_true', Bool.not_eq_false', Bool.not_eq_true, Bool.not_eq_false, Int.not_lt, Int.not_le, Nat.not_lt, Nat.not_le, Decidable.not_not, ne_eq] at hc0
    rw [bld_no hc0] at hret
    refine WC_imp (fun w h => sat_nil (e := 32) (T := 42) (f := fD) h) ?_
    refine WC_sr fun K5 hK5 => ?_
    refine WL_rd (Rd_move rfl) rfl rfl rfl ?_
    refine WL_rd (Rd_assign (v := sl none 0 0) rfl) rfl rfl rfl ?_
    refine WL_rd (Rd_assign rfl) rfl rfl rfl ?_
    refine WL_end hK5 ?_
    refine WC_ret ?_
    first | exact hret.goE (none, 0) (Rs2 rfl rfl rfl) rfl | exact hret.goE (some b21, 2 * (wdM ls.length) - 1) (Rs2 rfl rfl rfl) (by rw [upI_len, hul]; rfl)
  · try simp only [decide_eq_true_eq, decide_eq_false_iff_not, Bool.not_eq_true', Bool.not_eq_false', Bool.not_eq_true, Bool.not_eq_false, Int.not_lt, Int.not_le, Nat.not_lt, Nat.not_le, Decidable.not_not, ne_eq] at hc0
    obtain ⟨hl1, hl2⟩ := wdE_iff.1 hc0
    obtain ⟨hw1, hw2, hw3, hw4, hw5⟩ := wd_ok hl1 hl2
    rw [bld_ok hc0, hc0] at hret
    refine WC_skip ?_
    refine Ps_next hK3 ?_
    refine WC_sr fun K6 hK6 => ?_
    refine WL_rd (Rd_move rfl) rfl rfl rfl ?_
    refine WL_rd (Rd_mulN (i := 2) rfl rfl) rfl rfl rfl ?_
    refine WL_rd (Rd_subN (j := 1) rfl rfl) rfl rfl rfl ?_
    refine WL_ac (Ac_make (f := fD) encD zD (l := 2 * (wdM ls.length) - 1) (c := 2 * (wdM ls.length) - 1) rfl rfl ud76 el42 zr42) rfl rfl rfl ?_
    rintro _ _ ⟨b21, rfl, rfl⟩
    refine WL_rd (Rd_assign rfl) rfl rfl rfl ?_
    refine WL_end hK6 ?_
    refine WC_sr fun K7 hK7 => ?_
    refine WL_rd (Rd_move rfl) rfl rfl rfl ?_
    refine WL_rd (Rd_move rfl) rfl rfl rfl ?_
    refine WL_rd (Rd_subN (j := 1) rfl rfl) rfl rfl rfl ?_
    refine WL_rd (Rd_slice_lo ((wdM ls.length) - 1) rfl rfl ud76 sz42 (by omega) (by omega) (by omega)) rfl rfl rfl ?_
    refine WL_rd (Rd_move rfl) rfl rfl rfl ?_
    refine WL_ac (Ac_copyE (i := (wdM ls.length) - 1) (e := 32) encD rfl rfl rfl ud76 sz42 (hS := hS) (h2 := by rw [List.length_replicate]; omega)) rfl rfl rfl ?_
    rintro _ _ ⟨rfl, rfl⟩
    rw [low_0 ls hw5 hw1]
    refine WL_end hK7 ?_
    refine WC_seq fun K8 hK8 => ?_
    refine WC_sr fun K9 hK9 => ?_
    refine WL_rd (Rd_move rfl) rfl rfl rfl ?_
    refine WL_rd (Rd_len_sv rfl rfl ud76) rfl rfl rfl ?_
    refine WL_rd (Rd_assign rfl) rfl rfl rfl ?_
    refine WL_end hK9 ?_
    refine WC_block ?_
    refine WC_loopK (σ := Nat) (fun i' => [(7, .int .i64 (((ls.length + i') : Nat) : Int))]) (fun i' => [arr (some b21) (2 * (wdM ls.length) - 1) 32 42 fD (lowI ls (wdM ls.length) i')]) (fun i' => ls.length + i' ≤ (wdM ls.length)) (fun i' => (wdM ls.length) - i') (0) [2, 3, 4, 6, 8, 44, 45, 46, 47, 48, 49, 50, 51, 52, 53, 54, 55, 56, 57, 58, 59, 60, 61, 62, 63, 64, 65, 66] (by repeat (first | exact Kep.nil | apply Kep.drop rfl | apply Kep.keep rfl)) (by (try dsimp only); repeat (first | with_reducible exact Gv.nil | (with_reducible apply Gv.cons; · (repeat (first | with_reducible exact Ext.here | with_reducible apply Ext.there))))) ?_ ?_ Sub.refl ?_
    · omega
    · (try dsimp only); exact (Wk.cons (by first | rfl | (simp only [List.length_append, List.length_cons, List.length_nil, List.length_replicate, Nat.zero_add]; rfl) | (simp; done)) Wk.nil)
    · rintro i' hi K10 hK10
      simp only [List.cons_append, List.nil_append]
      have hll := lowI_len (ls := ls) (w := (wdM ls.length)) (i := i') hw5 hi
      refine WC_seq fun K11 hK11 => ?_
      refine WC_sr fun K12 hK12 => ?_
      refine WL_rd (Rd_move rfl) rfl rfl rfl ?_
      refine WL_rd (Rd_move rfl) rfl rfl rfl ?_
      refine WL_rd (Rd_lssN rfl rfl) rfl rfl rfl ?_
      refine WL_end hK12 ?_
      refine WC_cond rfl (fun hc1 => ?_) (fun hc1 => ?_)
      · try simp only [decide_eq_true_eq, decide_eq_false_iff_not, Bool.not_eq_true', Bool.not_eq_false', Bool.not_eq_true, Bool.not_eq_false, Int.not_lt, Int.not_le, Nat.not_lt, Nat.not_le, Decidable.not_not, ne_eq] at hc1
        refine WC_skip ?_
        refine Ps_next hK11 ?_
        refine WC_seq fun K13 hK13 => ?_
        refine WC_block ?_
        refine WC_region ?_
        refine WL_rd (Rd_move rfl) rfl rfl rfl ?_
        refine WL_rd (Rd_move rfl) rfl rfl rfl ?_
        refine WL_rd (Rd_subN (j := 1) rfl rfl) rfl rfl rfl ?_
        refine WL_rd (Rd_move rfl) rfl rfl rfl ?_
        refine WL_rd (Rd_addN rfl rfl) rfl rfl rfl ?_
        refine WL_rd (Rd_move rfl) rfl rfl rfl ?_
        refine WL_rd (Rd_convNU rfl ikd3_24 (h' := uk32)) rfl rfl rfl ?_
        refine WL_ac (Ac_call cf93 rfl (hs := padT_ct (x := BitVec.ofNat 32 (ls.length + i')))) rfl rfl rfl ?_
        rintro _ _ ⟨⟨⟩, rfl, hA⟩
        simp only [List.cons_append, List.nil_append] at hA
        replace hA := hA.symm
        subst hA
        refine WL_rd (Rd_index ((wdM ls.length) - 1 + (ls.length + i')) rfl rfl ud76 sz42 (hj := by omega)) rfl rfl rfl ?_
        refine WL_ac0 (Ac_storeD (padD (ls.length + i')) rfl rfl sz42) rfl rfl ?_
        rintro _ _ rfl
        rw [lowI_set hw5 (by omega)]
        refine WL_nil ?_
        refine Ps_next hK13 ?_
        refine WC_region ?_
        refine WL_rd (Rd_move rfl) rfl rfl rfl ?_
        refine WL_rd (Rd_addN (j := 1) rfl rfl) rfl rfl rfl ?_
        refine WL_rd (Rd_assign rfl) rfl rfl rfl ?_
        refine WL_nil ?_
        refine Ps_wk (by (try simp only [List.cons_append, List.nil_append]); repeat (first | with_reducible exact Wk.nil | refine Wk.cons (by first | rfl | (simp only [List.length_append, List.length_cons, List.length_nil, List.length_replicate, Nat.zero_add]; rfl) | (simp; done)) ?_)) (by (try simp only [List.cons_append, List.nil_append]); repeat (first | with_reducible exact Sub.refl | with_reducible exact Sub.nil | with_reducible refine Sub.cons (by repeat (first | with_reducible exact Ext.here | with_reducible apply Ext.there)) ?_ | with_reducible refine Sub.tail ?_)) (hK10 (i' + 1) (by omega) (by omega))
      · try simp only [decide_eq_true_eq, decide_eq_false_iff_not, Bool.not_eq_true', Bool.not_eq_false', Bool.not_eq_true, Bool.not_eq_false, Int.not_lt, Int.not_le, Nat.not_lt, Nat.not_le, Decidable.not_not, ne_eq] at hc1
        obtain rfl : i' = (wdM ls.length) - ls.length := by omega
        have hul := lowI_len (ls := ls) (w := (wdM ls.length)) (i := (wdM ls.length) - ls.length) hw5 (by omega)
        refine WC_exit ?_
        refine Ps_next hK8 ?_
        refine WC_seq fun K14 hK14 => ?_
        refine WC_sr fun K15 hK15 => ?_
        refine WL_rd (Rd_move rfl) rfl rfl rfl ?_
        refine WL_rd (Rd_subN (j := 1) rfl rfl) rfl rfl rfl ?_
        refine WL_rd (Rd_assign rfl) rfl rfl rfl ?_
        refine WL_end hK15 ?_
        refine WC_block ?_
        rw [show arr (some b21) (2 * (wdM ls.length) - 1) 32 42 fD (lowI ls (wdM ls.length) ((wdM ls.length) - ls.length)) = arr (some b21) (2 * (wdM ls.length) - 1) 32 42 fD (upI (lowI ls (wdM ls.length) ((wdM ls.length) - ls.length)) (wdM ls.length) 0) from rfl]
        refine WC_loopK (σ := Nat) (fun m => [(8, .int .i64 ((((wdM ls.length) - 1 - m) : Nat) : Int))]) (fun m => [arr (some b21) (2 * (wdM ls.length) - 1) 32 42 fD (upI (lowI ls (wdM ls.length) ((wdM ls.length) - ls.length)) (wdM ls.length) m)]) (fun m => m ≤ (wdM ls.length) - 1) (fun m => (wdM ls.length) - m) (0) [2, 3, 6, 66] (by repeat (first | exact Kep.nil | apply Kep.drop rfl | apply Kep.keep rfl)) (by (try dsimp only); repeat (first | with_reducible exact Gv.nil | (with_reducible apply Gv.cons; · (repeat (first | with_reducible exact Ext.here | with_reducible apply Ext.there))))) ?_ ?_ Sub.refl ?_
        · omega
        · (try dsimp only); exact (Wk.cons (by first | rfl | (simp only [List.length_append, List.length_cons, List.length_nil, List.length_replicate, Nat.zero_add]; rfl) | (simp; done)) Wk.nil)
        · rintro m hm K16 hK16
          simp only [List.cons_append, List.nil_append]
          have hll := upI_len (lowI ls (wdM ls.length) ((wdM ls.length) - ls.length)) (wdM ls.length) m
          refine WC_seq fun K17 hK17 => ?_
          refine WC_sr fun K18 hK18 => ?_
          refine WL_rd (Rd_move rfl) rfl rfl rfl ?_
          refine WL_rd (Rd_geqN (j := 1) rfl rfl) rfl rfl rfl ?_
          refine WL_end hK18 ?_
          refine WC_cond rfl (fun hc2 => ?_) (fun hc2 => ?_)
          · try simp only [decide_eq_true_eq, decide_eq_false_iff_not, Bool.not_eq_true', Bool.not_eq_false', Bool.not_eq_true, Bool.not_eq_false, Int.not_lt, Int.not_le, Nat.not_lt, Nat.not_le, Decidable.not_not, ne_eq] at hc2
            refine WC_skip ?_
            refine Ps_next hK17 ?_
            refine WC_seq fun K19 hK19 => ?_
            refine WC_block ?_
            refine WC_drawA mix (fun i => ([2, 2, 2, 2, 2, 2, 2, 2, 2, 2, 2, 2, 2, 2, 1, 2, 0] : List Nat).getD i 0) ?_
            refine WJ_takeP 0 rfl (by kernel_rfl) (Rd_move rfl) rfl rfl rfl (hp _ _) ?_
            refine WJ_takeP 1 rfl (by kernel_rfl) (Rd_move rfl) rfl rfl rfl (hp _ _) ?_
            refine WJ_takeP 2 rfl (by kernel_rfl) (Rd_subN (j := 1) rfl rfl) rfl rfl rfl (hp _ _) ?_
            refine WJ_takeP 3 rfl (by kernel_rfl) (Rd_move rfl) rfl rfl rfl (hp _ _) ?_
            refine WJ_takeP 4 rfl (by kernel_rfl) (Rd_move rfl) rfl rfl rfl (hp _ _) ?_
            refine WJ_takeP 5 rfl (by kernel_rfl) (Rd_mulN (i := 2) rfl rfl) rfl rfl rfl (hp _ _) ?_
            refine WJ_takeP 6 rfl (by kernel_rfl) (Rd_subN (j := 1) rfl rfl) rfl rfl rfl (hp _ _) ?_
            refine WJ_takeP 7 rfl (by kernel_rfl) (Rd_index (2 * ((wdM ls.length) - 1 - m) - 1) rfl rfl ud76 sz42 (hj := by omega)) rfl rfl rfl (hp _ _) ?_
            refine WJ_tk 8 (Rd_aU (k := .u8) (l := ((upI (lowI ls (wdM ls.length) ((wdM ls.length) - ls.length)) (wdM ls.length) m).getD (2 * ((wdM ls.length) - 1 - m) - 1) zD).1) (Rd_loadg_arr (i := 2 * ((wdM ls.length) - 1 - m) - 1) rfl tk42 (hl := at_of (by omega))) rfl) hp ?_ rfl (by kernel_rfl) rfl rfl rfl
            refine WJ_takeP 9 rfl (by kernel_rfl) (Rd_move rfl) rfl rfl rfl (hp _ _) ?_
            refine WJ_takeP 10 rfl (by kernel_rfl) (Rd_move rfl) rfl rfl rfl (hp _ _) ?_
            refine WJ_takeP 11 rfl (by kernel_rfl) (Rd_mulN (i := 2) rfl rfl) rfl rfl rfl (hp _ _) ?_
            refine WJ_takeP 12 rfl (by kernel_rfl) (Rd_index (2 * ((wdM ls.length) - 1 - m)) rfl rfl ud76 sz42 (hj := by omega)) rfl rfl rfl (hp _ _) ?_
            refine WJ_tk 13 (Rd_aU (k := .u8) (l := ((upI (lowI ls (wdM ls.length) ((wdM ls.length) - ls.length)) (wdM ls.length) m).getD (2 * ((wdM ls.length) - 1 - m)) zD).1) (Rd_loadg_arr (i := 2 * ((wdM ls.length) - 1 - m)) rfl tk42 (hl := at_of (by omega))) rfl) hp ?_ rfl (by kernel_rfl) rfl rfl rfl
            refine WJ_all (rs := [14]) (by kernel_rfl) rfl ?_
            refine WI_one ?_
            refine WI_ac rfl (Ac_call cf99 rfl (hs := node_ct (x := ((upI (lowI ls (wdM ls.length) ((wdM ls.length) - ls.length)) (wdM ls.length) m).getD (2 * ((wdM ls.length) - 1 - m) - 1) zD).1) (y := ((upI (lowI ls (wdM ls.length) ((wdM ls.length) - ls.length)) (wdM ls.length) m).getD (2 * ((wdM ls.length) - 1 - m)) zD).1) (hx := Dg_len _) (hy := Dg_len _))) rfl rfl rfl rfl ?_
            rintro _ _ ⟨⟨⟩, rfl, hA⟩
            simp only [List.cons_append, List.nil_append] at hA
            replace hA := hA.symm
            subst hA
            refine ⟨(fun _ => (by repeat (first | with_reducible exact Sub.refl | with_reducible exact Sub.nil | with_reducible refine Sub.cons (by repeat (first | with_reducible exact Ext.here | with_reducible apply Ext.there)) ?_ | with_reducible refine Sub.tail ?_))), ?_⟩
            refine WJ_takeP 15 rfl (by kernel_rfl) (Rd_index ((wdM ls.length) - 1 - m - 1) rfl rfl ud76 sz42 (hj := by omega)) rfl rfl rfl (hp _ _) ?_
            refine WJ_all (rs := [16]) (by kernel_rfl) rfl ?_
            refine WI_one ?_
            refine WI_ac0 rfl (Ac_storeD (nodeD ((upI (lowI ls (wdM ls.length) ((wdM ls.length) - ls.length)) (wdM ls.length) m).getD (2 * ((wdM ls.length) - 1 - m) - 1) zD) ((upI (lowI ls (wdM ls.length) ((wdM ls.length) - ls.length)) (wdM ls.length) m).getD (2 * ((wdM ls.length) - 1 - m)) zD)) rfl rfl sz42) rfl rfl rfl ?_
            rintro _ _ rfl
            refine ⟨(fun h => by cases h), ?_⟩
            rw [← upI]
            refine WJ_done (by kernel_rfl) ?_
            refine Ps_next hK19 ?_
            refine WC_region ?_
            refine WL_rd (Rd_move rfl) rfl rfl rfl ?_
            refine WL_rd (Rd_sub' (r := (((wdM ls.length) - 1 - (m + 1) : Nat) : Int)) rfl rfl (wr64 (by omega) (by omega) (by omega))) rfl rfl rfl ?_
            refine WL_rd (Rd_assign rfl) rfl rfl rfl ?_
            refine WL_nil ?_
            refine Ps_wk (by (try simp only [List.cons_append, List.nil_append]); repeat (first | with_reducible exact Wk.nil | refine Wk.cons (by first | rfl | (simp only [List.length_append, List.length_cons, List.length_nil, List.length_replicate, Nat.zero_add]; rfl) | (simp; done)) ?_)) (by (try simp only [List.cons_append, List.nil_append]); repeat (first | with_reducible exact Sub.refl | with_reducible exact Sub.nil | with_reducible refine Sub.cons (by repeat (first | with_reducible exact Ext.here | with_reducible apply Ext.there)) ?_ | with_reducible refine Sub.tail ?_)) (hK16 (m + 1) (by omega) (by omega))
          · try simp only [decide_eq_true_eq, decide_eq_false_iff_not, Bool.not_eq_true', Bool.not_eq_false', Bool.not_eq_true, Bool.not_eq_false, Int.not_lt, Int.not_le, Nat.not_lt, Nat.not_le, Decidable.not_not, ne_eq] at hc2
            obtain rfl : m = (wdM ls.length) - 1 := by omega
            refine WC_exit ?_
            refine Ps_next hK14 ?_
            refine WC_sr fun K20 hK20 => ?_
            refine WL_rd (Rd_move rfl) rfl rfl rfl ?_
            refine WL_rd (Rd_assign rfl) rfl rfl rfl ?_
            refine WL_rd (Rd_assign rfl) rfl rfl rfl ?_
            refine WL_end hK20 ?_
            refine WC_ret ?_
            first | exact hret.goE (none, 0) (Rs2 rfl rfl rfl) rfl | exact hret.goE (some b21, 2 * (wdM ls.length) - 1) (Rs2 rfl rfl rfl) (by rw [upI_len, hul]; rfl)
end Go.Proofs.Ythkchjcodibaeaa
namespace Go.Proofs.Ythkchjcodibaeaa
open Go.RowKit Go.SL Go.ShM
set_option maxHeartbeats 1000000
set_option maxRecDepth 20000
set_option linter.all false
theorem cf53 : cfn Try.prog 53 = true := by kernel_rfl
theorem cf54 : cfn Try.prog 54 = true := by kernel_rfl
theorem cf63 : cfn Try.prog 63 = true := by kernel_rfl
theorem cf98 : cfn Try.prog 98 = true := by kernel_rfl
theorem root_ct_ {X : Asn} {v : Value} {ls : List Dg} {ao : Option Addr} {cap2 : Nat} (hS : Sv [X] v 32 fD ls ao cap2 := by assumption) : Ct Try.prog 63 [v] [X] (fun _ : Unit => .tuple #[aU .u8 (rootM ls).1, .int .i64 (((wdE ls.length) : Nat) : Int)]) (fun _ => [X]) := by
  refine Ct_body (n := 18) Try.func63 rfl rfl rfl fun F w0 Q hret hnorm hp => ?_
  change WC _ _ _ _ _ _ _ (_ :: F)
  have hrl := Dg_len (rootM ls)
  have hz32 : (List.replicate 32 0#8).length = 32 := rfl
  refine WC_sr fun K1 hK1 => ?_
  refine WL_ac (Ac_allocW (k := .u8) (w := 8) (m := 32) zr42) rfl rfl rfl ?_
  rintro _ _ ⟨b2, rfl, rfl⟩
  refine WL_rd (Rd_assign rfl) rfl rfl rfl ?_
  refine WL_end hK1 ?_
  refine WC_sr fun K2 hK2 => ?_
  refine WL_rd (Rd_move rfl) rfl rfl rfl ?_
  refine WL_ac (Ac_call cf54 rfl (hs := build_ct (X := X) (hS := hS))) rfl rfl rfl ?_
  rintro _ _ ⟨⟨a8, cap8⟩, rfl, hA⟩
  simp only [List.cons_append, List.nil_append] at hA
  replace hA := hA.symm
  subst hA
  refine WL_rd (Rd_move rfl) rfl rfl rfl ?_
  refine WL_rd (Rd_ext0 rfl) rfl rfl rfl ?_
  refine WL_rd (Rd_ext1 rfl) rfl rfl rfl ?_
  refine WL_rd (Rd_assign rfl) rfl rfl rfl ?_
  refine WL_rd (Rd_assign rfl) rfl rfl rfl ?_
  refine WL_end hK2 ?_
  refine WC_seq fun K3 hK3 => ?_
  refine WC_sr fun K4 hK4 => ?_
  refine WL_rd (Rd_move rfl) rfl rfl rfl ?_
  refine WL_rd (Rd_neqN (j := 0) rfl rfl) rfl rfl rfl ?_
  refine WL_end hK4 ?_
  refine WC_cond rfl (fun hc0 => ?_) (fun hc0 => ?_)
  · try simp only [decide_eq_true_eq, decide_eq_false_iff_not, Bool.not_eq_true', Bool.not_eq_false', Bool.not_eq_true, Bool.not_eq_false, Int.not_lt, Int.not_le, Nat.not_lt, Nat.not_le, Decidable.not_not, ne_eq] at hc0
    rw [root_no hc0] at hret
    refine WC_sr fun K5 hK5 => ?_
    refine WL_rd (Rd_aU (k := .u8) (l := (List.replicate 32 0#8)) (Rd_build pls42 rfl) (by rfl)) rfl rfl rfl ?_
    refine WL_rd (Rd_move rfl) rfl rfl rfl ?_
    refine WL_ac0 (Ac_storeW rfl rfl sz42) rfl rfl ?_
    rintro _ _ rfl
    refine WL_rd (Rd_assign rfl) rfl rfl rfl ?_
    refine WL_end hK5 ?_
    refine WC_ret ?_
    exact hret.goE () (Rs2cW rfl rfl rfl tk42) rfl
  · try simp only [decide_eq_true_eq, decide_eq_false_iff_not, Bool.not_eq_true', Bool.not_eq_false', Bool.not_eq_true, Bool.not_eq_false, Int.not_lt, Int.not_le, Nat.not_lt, Nat.not_le, Decidable.not_not, ne_eq] at hc0
    have hbl := bld_len hc0
    obtain ⟨hl1, hl2⟩ := wdE_iff.1 hc0
    have hw := wd_ok hl1 hl2
    refine WC_some (a := a8) (by repeat (first | with_reducible exact Has.here | with_reducible refine Has.there ?_)) (by omega) (fun gb hgb hcp => ?_)
    subst hgb
    rw [hc0] at hret
    have hgl := Dg_len ((bldM ls).getD 0 zD)
    refine WC_skip ?_
    refine Ps_next hK3 ?_
    refine WC_sr fun K6 hK6 => ?_
    refine WL_rd (Rd_move rfl) rfl rfl rfl ?_
    refine WL_rd (Rd_index 0 rfl rfl ud76 sz42) rfl rfl rfl ?_
    refine WL_rd (Rd_aU (k := .u8) (l := ((bldM ls).getD 0 zD).1) (Rd_loadg_arr (i := 0) rfl tk42 (hl := at_of (by omega))) rfl) rfl rfl rfl ?_
    refine WL_ac0 (Ac_storeW rfl rfl sz42) rfl rfl ?_
    rintro _ _ rfl
    rw [show ((bldM ls).getD 0 zD).1 = (rootM ls).1 from rfl]
    refine WL_rd (Rd_assign rfl) rfl rfl rfl ?_
    refine WL_end hK6 ?_
    refine WC_ret ?_
    exact hret.goE () (Rs2cW rfl rfl rfl tk42) rfl

theorem trlives_ct   : Ct Try.prog 53 [] [] (fun _ : Unit => .bool true) (fun _ => []) := by
  refine Ct_body (n := 52) Try.func53 rfl rfl rfl fun F w0 Q hret hnorm hp => ?_
  change WC _ _ _ _ _ _ _ (F)
  have hd9 := Dg_len d9
  have hnl := Dg_len (nodeD d9 d9)
  have hr1 := root1 d9
  have hr2 := root2 d9 d9
  refine WC_sr fun K1 hK1 => ?_
  refine WL_rd (Rd_assign rfl) rfl rfl rfl ?_
  refine WL_end hK1 ?_
  refine WC_sr fun K2 hK2 => ?_
  refine WL_ac (Ac_allocW (k := .u8) (w := 8) (m := 32) zr42) rfl rfl rfl ?_
  rintro _ _ ⟨b1, rfl, rfl⟩
  refine WL_end hK2 ?_
  refine WC_sr fun K3 hK3 => ?_
  refine WL_rd (Rd_ixA 3 rfl rfl ud42 sz5) rfl rfl rfl ?_
  refine WL_ac0 (Ac_storeU (a := 9#8) rfl rfl sz5) rfl rfl ?_
  rintro _ _ rfl
  rw [show (List.replicate 32 0#8).set 3 9#8 = d9.1 from rfl]
  refine WL_end hK3 ?_
  refine WC_sr fun K4 hK4 => ?_
  refine WL_rd (Rd_loadW rfl tk42) rfl rfl rfl ?_
  refine WL_ac (Ac_bsL (f := fD) (zs := [.int .u8 0, .int .u8 0, .int .u8 0, .int .u8 0, .int .u8 0, .int .u8 0, .int .u8 0, .int .u8 0, .int .u8 0, .int .u8 0, .int .u8 0, .int .u8 0, .int .u8 0, .int .u8 0, .int .u8 0, .int .u8 0, .int .u8 0, .int .u8 0, .int .u8 0, .int .u8 0, .int .u8 0, .int .u8 0, .int .u8 0, .int .u8 0, .int .u8 0, .int .u8 0, .int .u8 0, .int .u8 0, .int .u8 0, .int .u8 0, .int .u8 0, .int .u8 0]) (bs := (List.replicate 32 (.int .u8 0))) [d9] encD ud76 zr42 sz42 rfl (by rw [Array.toList_map, Array.toList_range]; rfl) (by rfl) (by rfl) (by rfl) (by rfl)) rfl rfl rfl ?_
  rintro _ _ ⟨b11, rfl, rfl⟩
  refine WL_ac (Ac_call cf63 rfl (hs := root_ct_ (X := arr (some b11) 1 32 42 fD [d9]) (ls := [d9]) (hS := (Sv_own' (a := some b11) (cap := 1) (T := 42) encD (l := [d9]) (by simp) (Nat.le_refl 1))))) rfl rfl rfl ?_
  rintro _ _ ⟨⟨⟩, rfl, hA⟩
  simp only [List.cons_append, List.nil_append] at hA
  replace hA := hA.symm
  subst hA
  rw [hr1, show wdE [d9].length = 0 from rfl]
  refine WL_rd (Rd_move rfl) rfl rfl rfl ?_
  refine WL_rd (Rd_ext0 rfl) rfl rfl rfl ?_
  refine WL_rd (Rd_ext1 rfl) rfl rfl rfl ?_
  refine WL_ac (Ac_allocW (k := .u8) (w := 8) (m := 32) zr42) rfl rfl rfl ?_
  rintro _ _ ⟨b2, rfl, rfl⟩
  refine WL_ac0 (Ac_storeW rfl rfl sz42) rfl rfl ?_
  rintro _ _ rfl
  refine WL_rd (Rd_assign rfl) rfl rfl rfl ?_
  refine WL_end hK4 ?_
  refine WC_sr fun K5 hK5 => ?_
  refine WL_ac (Ac_call cf97 rfl (hs := widthL_ct (n := 3))) rfl rfl rfl ?_
  rintro _ _ ⟨⟨⟩, rfl, hA⟩
  simp only [List.cons_append, List.nil_append] at hA
  replace hA := hA.symm
  subst hA
  refine WL_rd (Rd_move rfl) rfl rfl rfl ?_
  refine WL_rd (Rd_ext0 rfl) rfl rfl rfl ?_
  refine WL_rd (Rd_ext1 rfl) rfl rfl rfl ?_
  refine WL_rd (Rd_assign rfl) rfl rfl rfl ?_
  refine WL_rd (Rd_assign rfl) rfl rfl rfl ?_
  refine WL_end hK5 ?_
  refine WC_sr fun K6 hK6 => ?_
  refine WL_rd (Rd_loadW rfl tk42) rfl rfl rfl ?_
  refine WL_rd (Rd_loadW rfl tk42) rfl rfl rfl ?_
  refine WL_ac (Ac_bsL (f := fD) (zs := [.int .u8 0, .int .u8 0, .int .u8 0, .int .u8 0, .int .u8 0, .int .u8 0, .int .u8 0, .int .u8 0, .int .u8 0, .int .u8 0, .int .u8 0, .int .u8 0, .int .u8 0, .int .u8 0, .int .u8 0, .int .u8 0, .int .u8 0, .int .u8 0, .int .u8 0, .int .u8 0, .int .u8 0, .int .u8 0, .int .u8 0, .int .u8 0, .int .u8 0, .int .u8 0, .int .u8 0, .int .u8 0, .int .u8 0, .int .u8 0, .int .u8 0, .int .u8 0]) (bs := (List.replicate 64 (.int .u8 0))) [d9, d9] encD ud76 zr42 sz42 rfl (by rw [Array.toList_map, Array.toList_range]; rfl) (by rfl) (by rfl) (by rfl) (by rfl)) rfl rfl rfl ?_
  rintro _ _ ⟨b22, rfl, rfl⟩
  refine WL_ac (Ac_call cf63 rfl (hs := root_ct_ (X := arr (some b22) 2 32 42 fD [d9, d9]) (ls := [d9, d9]) (hS := (Sv_own' (a := some b22) (cap := 2) (T := 42) encD (l := [d9, d9]) (by simp) (Nat.le_refl 2))))) rfl rfl rfl ?_
  rintro _ _ ⟨⟨⟩, rfl, hA⟩
  simp only [List.cons_append, List.nil_append] at hA
  replace hA := hA.symm
  subst hA
  rw [hr2, show wdE [d9, d9].length = 0 from rfl]
  refine WL_rd (Rd_move rfl) rfl rfl rfl ?_
  refine WL_rd (Rd_ext0 rfl) rfl rfl rfl ?_
  refine WL_rd (Rd_ext1 rfl) rfl rfl rfl ?_
  refine WL_ac (Ac_allocW (k := .u8) (w := 8) (m := 32) zr42) rfl rfl rfl ?_
  rintro _ _ ⟨b6, rfl, rfl⟩
  refine WL_ac0 (Ac_storeW rfl rfl sz42) rfl rfl ?_
  rintro _ _ rfl
  refine WL_rd (Rd_assign rfl) rfl rfl rfl ?_
  refine WL_end hK6 ?_
  refine WC_seq fun K7 hK7 => ?_
  refine WC_drawA mix (fun i => ([2, 2, 2, 2, 2, 2, 2, 2, 2, 2, 2, 2, 2, 2, 2, 2, 2, 2, 2, 2, 2, 2, 2, 1, 2, 2, 2] : List Nat).getD i 0) ?_
  refine WJ_takeP 0 rfl (by kernel_rfl) (Rd_move rfl) rfl rfl rfl (hp _ _) ?_
  refine WJ_takeP 1 rfl (by kernel_rfl) (Rd_eqlN (i := 0) (j := 0) rfl rfl) rfl rfl rfl (hp _ _) ?_
  refine WJ_takeP 2 rfl (by kernel_rfl) (Rd_move rfl) rfl rfl rfl (hp _ _) ?_
  refine WJ_takeP 3 rfl (by kernel_rfl) (Rd_move rfl) rfl rfl rfl (hp _ _) ?_
  refine WJ_takeP 4 rfl (by kernel_rfl) (Rd_eqlN (i := 0) (j := 0) rfl rfl) rfl rfl rfl (hp _ _) ?_
  refine WJ_takeP 5 rfl (by kernel_rfl) (Rd_pickT rfl rfl) rfl rfl rfl (hp _ _) ?_
  refine WJ_takeP 6 rfl (by kernel_rfl) (Rd_move rfl) rfl rfl rfl (hp _ _) ?_
  refine WJ_takeP 7 rfl (by kernel_rfl) (Rd_move rfl) rfl rfl rfl (hp _ _) ?_
  refine WJ_takeP 8 rfl (by kernel_rfl) (Rd_eqlN (i := 0) (j := 0) rfl rfl) rfl rfl rfl (hp _ _) ?_
  refine WJ_takeP 9 rfl (by kernel_rfl) (Rd_pickT rfl rfl) rfl rfl rfl (hp _ _) ?_
  refine WJ_takeP 10 rfl (by kernel_rfl) (Rd_move rfl) rfl rfl rfl (hp _ _) ?_
  refine WJ_takeP 11 rfl (by kernel_rfl) (Rd_move rfl) rfl rfl rfl (hp _ _) ?_
  refine WJ_takeP 12 rfl (by kernel_rfl) (Rd_eqlN (i := 4) (j := 4) rfl rfl) rfl rfl rfl (hp _ _) ?_
  refine WJ_takeP 13 rfl (by kernel_rfl) (Rd_pickT rfl rfl) rfl rfl rfl (hp _ _) ?_
  refine WJ_takeP 14 rfl (by kernel_rfl) (Rd_move rfl) rfl rfl rfl (hp _ _) ?_
  refine WJ_tk 15 (Rd_loadW rfl tk42) hp ?_ rfl (by kernel_rfl) rfl rfl rfl
  refine WJ_tk 16 (Rd_loadW rfl tk42) hp ?_ rfl (by kernel_rfl) rfl rfl rfl
  refine WJ_takeP 17 rfl (by kernel_rfl) (Rd_isT (Rd_eqW rfl rfl ais42) (by simp)) rfl rfl rfl (hp _ _) ?_
  refine WJ_takeP 18 rfl (by kernel_rfl) (Rd_pickT rfl rfl) rfl rfl rfl (hp _ _) ?_
  refine WJ_takeP 19 rfl (by kernel_rfl) (Rd_move rfl) rfl rfl rfl (hp _ _) ?_
  refine WJ_tk 20 (Rd_loadW rfl tk42) hp ?_ rfl (by kernel_rfl) rfl rfl rfl
  refine WJ_tk 21 (Rd_loadW rfl tk42) hp ?_ rfl (by kernel_rfl) rfl rfl rfl
  refine WJ_tk 22 (Rd_loadW rfl tk42) hp ?_ rfl (by kernel_rfl) rfl rfl rfl
  refine WJ_all (rs := [23]) (by kernel_rfl) rfl ?_
  refine WI_one ?_
  refine WI_ac rfl (Ac_call cf98 rfl (hs := nodeR_ct (x := d9.1) (y := d9.1))) rfl rfl rfl rfl ?_
  rintro _ _ ⟨⟨⟩, rfl, hA⟩
  simp only [List.cons_append, List.nil_append] at hA
  replace hA := hA.symm
  subst hA
  refine ⟨(fun _ => (by repeat (first | with_reducible exact Sub.refl | with_reducible exact Sub.nil | with_reducible refine Sub.cons (by repeat (first | with_reducible exact Ext.here | with_reducible apply Ext.there)) ?_ | with_reducible refine Sub.tail ?_))), ?_⟩
  refine WJ_takeP 24 rfl (by kernel_rfl) (Rd_isT (Rd_eqW (l := (nodeD d9 d9).1) (l' := (nodeD d9 d9).1) rfl rfl ais42) (by simp)) rfl rfl rfl (hp _ _) ?_
  refine WJ_takeP 25 rfl (by kernel_rfl) (Rd_pickT rfl rfl) rfl rfl rfl (hp _ _) ?_
  refine WJ_takeP 26 rfl (by kernel_rfl) (Rd_assign rfl) rfl rfl rfl (hp _ _) ?_
  refine WJ_done (by kernel_rfl) ?_
  refine Ps_next hK7 ?_
  refine WC_ret ?_
  exact hret.go () (Rs1 rfl rfl)

end Go.Proofs.Ythkchjcodibaeaa
