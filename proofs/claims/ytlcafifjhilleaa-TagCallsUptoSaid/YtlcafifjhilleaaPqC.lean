/-
  Contracts of functions that the claim reaches, or the logic and the plain laws that they rest on, or the row over them. (Conditions: none beyond the statement.)
-/
import Derived.Test.YtlcafifjhilleaaPqB
import Derived.Test.YtlcafifjhilleaaLibC
set_option linter.all false
namespace Go.Proofs.Ytlcafifjhilleaa
open Go.RowKit Go.SL Go.ShM
set_option maxHeartbeats 1000000
set_option maxRecDepth 20000
set_option linter.all false
theorem cf9 : cfn Try.prog 9 = true := by kernel_rfl
theorem cf29 : cfn Try.prog 29 = true := by kernel_rfl
theorem cf36 : cfn Try.prog 36 = true := by kernel_rfl
theorem ikd3_5 : ikd Try.prog 3 5 = some .u8 := by kernel_rfl
theorem same_ct {X : Asn} {v v' : Value} {l l' : List B8} {ao ao' : Option Addr} {cap cap' : Nat} (hS : Sv [X] v 1 (eU .u8 (w := 8)) l ao cap := by assumption) (hS' : Sv [X] v' 1 (eU .u8 (w := 8)) l' ao' cap' := by assumption) (hl : l.length ≤ 900000000000 := by omega) : Ct Try.prog 9 [v, v'] [X] (fun _ : Unit => .bool (decide (l = l'))) (fun _ => [X]) := by
  refine Ct_body (n := 26) Try.func9 rfl rfl rfl fun F w0 Q hret hnorm hp => ?_
  change WC _ _ _ _ _ _ _ (_ :: F)
  refine WC_sr fun K1 hK1 => ?_
  refine WL_rd (Rd_assign rfl) rfl rfl rfl ?_
  refine WL_end hK1 ?_
  refine WC_seq fun K2 hK2 => ?_
  refine WC_sr fun K3 hK3 => ?_
  refine WL_rd (Rd_move rfl) rfl rfl rfl ?_
  refine WL_rd (Rd_len_sv rfl rfl ud23) rfl rfl rfl ?_
  refine WL_rd (Rd_move rfl) rfl rfl rfl ?_
  refine WL_rd (Rd_len_sv rfl rfl ud23) rfl rfl rfl ?_
  refine WL_rd (Rd_neqN rfl rfl) rfl rfl rfl ?_
  refine WL_end hK3 ?_
  refine WC_cond rfl (fun hc0 => ?_) (fun hc0 => ?_)
  · try simp only [decide_eq_true_eq, decide_eq_false_iff_not, Bool.not_eq_true', Bool.not_eq_false', Bool.not_eq_true, Bool.not_eq_false, Int.not_lt, Int.not_le, Nat.not_lt, Nat.not_le, Decidable.not_not, ne_eq] at hc0
    refine WC_sr fun K4 hK4 => ?_
    refine WL_rd (Rd_assign rfl) rfl rfl rfl ?_
    refine WL_end hK4 ?_
    refine WC_ret ?_
    first | exact hret.goE () (Rs1 rfl rfl) (bF (ne_len hc0)) | exact hret.goE () (Rs1 rfl rfl) (bF (ne_at (z := 0#8) hc2)) | exact hret.goE () (Rs1 rfl rfl) (bT (eq_take hi.2 (by omega)))
  · try simp only [decide_eq_true_eq, decide_eq_false_iff_not, Bool.not_eq_true', Bool.not_eq_false', Bool.not_eq_true, Bool.not_eq_false, Int.not_lt, Int.not_le, Nat.not_lt, Nat.not_le, Decidable.not_not, ne_eq] at hc0
    refine WC_skip ?_
    refine Ps_next hK2 ?_
    refine WC_seq fun K5 hK5 => ?_
    refine WC_sr fun K6 hK6 => ?_
    refine WL_rd (Rd_assign rfl) rfl rfl rfl ?_
    refine WL_end hK6 ?_
    refine WC_block ?_
    refine WC_loopK (σ := Nat) (fun i' => [(5, .int .i64 ((i' : Nat) : Int))]) (fun i' => []) (fun i' => i' ≤ l.length ∧ l.take i' = l'.take i') (fun i' => l.length - i') (0) [0, 1] (by repeat (first | exact Kep.nil | apply Kep.drop rfl | apply Kep.keep rfl)) (by (try dsimp only); repeat (first | with_reducible exact Gv.nil | (with_reducible apply Gv.cons; · (repeat (first | with_reducible exact Ext.here | with_reducible apply Ext.there))))) ?_ ?_ Sub.refl ?_
    · exact ⟨Nat.zero_le _, rfl⟩
    · (try dsimp only); exact (Wk.cons (by first | rfl | (simp only [List.length_append, List.length_cons, List.length_nil, List.length_replicate, Nat.zero_add]; rfl) | (simp; done)) Wk.nil)
    · rintro i' hi K7 hK7
      simp only [List.cons_append, List.nil_append]
      refine WC_seq fun K8 hK8 => ?_
      refine WC_sr fun K9 hK9 => ?_
      refine WL_rd (Rd_move rfl) rfl rfl rfl ?_
      refine WL_rd (Rd_move rfl) rfl rfl rfl ?_
      refine WL_rd (Rd_len_sv rfl rfl ud23) rfl rfl rfl ?_
      refine WL_rd (Rd_lssN rfl rfl) rfl rfl rfl ?_
      refine WL_end hK9 ?_
      refine WC_cond rfl (fun hc1 => ?_) (fun hc1 => ?_)
      · try simp only [decide_eq_true_eq, decide_eq_false_iff_not, Bool.not_eq_true', Bool.not_eq_false', Bool.not_eq_true, Bool.not_eq_false, Int.not_lt, Int.not_le, Nat.not_lt, Nat.not_le, Decidable.not_not, ne_eq] at hc1
        refine WC_skip ?_
        refine Ps_next hK8 ?_
        refine WC_seq fun K10 hK10 => ?_
        refine WC_block ?_
        refine WC_seq fun K11 hK11 => ?_
        refine WC_drawA mix (fun i => ([2, 2, 2, 2, 2, 2, 2, 2, 2] : List Nat).getD i 0) ?_
        refine WJ_takeP 0 rfl (by kernel_rfl) (Rd_move rfl) rfl rfl rfl (hp _ _) ?_
        refine WJ_takeP 1 rfl (by kernel_rfl) (Rd_move rfl) rfl rfl rfl (hp _ _) ?_
        refine WJ_takeP 2 rfl (by kernel_rfl) (Rd_index_sv _ rfl rfl ud23 sz5) rfl rfl rfl (hp _ _) ?_
        refine WJ_tk 3 (Rd_loadU_sv rfl tk5) hp ?_ rfl (by kernel_rfl) rfl rfl rfl
        refine WJ_takeP 4 rfl (by kernel_rfl) (Rd_move rfl) rfl rfl rfl (hp _ _) ?_
        refine WJ_takeP 5 rfl (by kernel_rfl) (Rd_move rfl) rfl rfl rfl (hp _ _) ?_
        refine WJ_takeP 6 rfl (by kernel_rfl) (Rd_index_sv _ rfl rfl ud23 sz5) rfl rfl rfl (hp _ _) ?_
        refine WJ_tk 7 (Rd_loadU_sv rfl tk5) hp ?_ rfl (by kernel_rfl) rfl rfl rfl
        refine WJ_takeP 8 rfl (by kernel_rfl) (Rd_neqU rfl rfl) rfl rfl rfl (hp _ _) ?_
        refine WJ_done (by kernel_rfl) ?_
        refine Ps_next hK11 ?_
        refine WC_cond rfl (fun hc2 => ?_) (fun hc2 => ?_)
        · try simp only [decide_eq_true_eq, decide_eq_false_iff_not, Bool.not_eq_true', Bool.not_eq_false', Bool.not_eq_true, Bool.not_eq_false, Int.not_lt, Int.not_le, Nat.not_lt, Nat.not_le, Decidable.not_not, ne_eq] at hc2
          refine WC_sr fun K12 hK12 => ?_
          refine WL_rd (Rd_assign rfl) rfl rfl rfl ?_
          refine WL_end hK12 ?_
          refine WC_ret ?_
          first | exact hret.goE () (Rs1 rfl rfl) (bF (ne_len hc0)) | exact hret.goE () (Rs1 rfl rfl) (bF (ne_at (z := 0#8) hc2)) | exact hret.goE () (Rs1 rfl rfl) (bT (eq_take hi.2 (by omega)))
        · try simp only [decide_eq_true_eq, decide_eq_false_iff_not, Bool.not_eq_true', Bool.not_eq_false', Bool.not_eq_true, Bool.not_eq_false, Int.not_lt, Int.not_le, Nat.not_lt, Nat.not_le, Decidable.not_not, ne_eq] at hc2
          refine WC_skip ?_
          refine Ps_next hK10 ?_
          refine WC_region ?_
          refine WL_rd (Rd_move rfl) rfl rfl rfl ?_
          refine WL_rd (Rd_addN (j := 1) rfl rfl) rfl rfl rfl ?_
          refine WL_rd (Rd_assign rfl) rfl rfl rfl ?_
          refine WL_nil ?_
          refine Ps_wk (by (try simp only [List.cons_append, List.nil_append]); repeat (first | with_reducible exact Wk.nil | refine Wk.cons (by first | rfl | (simp only [List.length_append, List.length_cons, List.length_nil, List.length_replicate, Nat.zero_add]; rfl) | (simp; done)) ?_)) (by (try simp only [List.cons_append, List.nil_append]); repeat (first | with_reducible exact Sub.refl | with_reducible exact Sub.nil | with_reducible refine Sub.cons (by repeat (first | with_reducible exact Ext.here | with_reducible apply Ext.there)) ?_ | with_reducible refine Sub.tail ?_)) (hK7 (i' + 1) (⟨by omega, take_step hi.2 (by omega) (by omega) hc2⟩) (by omega))
      · try simp only [decide_eq_true_eq, decide_eq_false_iff_not, Bool.not_eq_true', Bool.not_eq_false', Bool.not_eq_true, Bool.not_eq_false, Int.not_lt, Int.not_le, Nat.not_lt, Nat.not_le, Decidable.not_not, ne_eq] at hc1
        obtain rfl : i' = l.length := by omega
        refine WC_exit ?_
        refine Ps_next hK5 ?_
        refine WC_sr fun K13 hK13 => ?_
        refine WL_rd (Rd_assign rfl) rfl rfl rfl ?_
        refine WL_end hK13 ?_
        refine WC_ret ?_
        first | exact hret.goE () (Rs1 rfl rfl) (bF (ne_len hc0)) | exact hret.goE () (Rs1 rfl rfl) (bF (ne_at (z := 0#8) hc2)) | exact hret.goE () (Rs1 rfl rfl) (bT (eq_take hi.2 (by omega)))

theorem mark_ct {k i : Nat} (hk : k ≤ 10000000000000 := by omega) (hi : i ≤ 10000000000000 := by omega) : Ct Try.prog 36 [.int .i64 ((k : Nat) : Int), .int .i64 ((i : Nat) : Int)] [] (fun _ : Unit => .int .u8 (((mkB k i).toNat : Nat) : Int)) (fun _ => []) := by
  refine Ct_body (n := 12) Try.func36 rfl rfl rfl fun F w0 Q hret hnorm hp => ?_
  change WC _ _ _ _ _ _ _ (F)
  refine WC_sr fun K1 hK1 => ?_
  refine WL_rd (Rd_assign rfl) rfl rfl rfl ?_
  refine WL_end hK1 ?_
  refine WC_sr fun K2 hK2 => ?_
  refine WL_rd (Rd_move rfl) rfl rfl rfl ?_
  refine WL_rd (Rd_mulN (i := 151) rfl rfl) rfl rfl rfl ?_
  refine WL_rd (Rd_move rfl) rfl rfl rfl ?_
  refine WL_rd (Rd_mulN (i := 7) rfl rfl) rfl rfl rfl ?_
  refine WL_rd (Rd_addN rfl rfl) rfl rfl rfl ?_
  refine WL_rd (Rd_addN (j := 1) rfl rfl) rfl rfl rfl ?_
  refine WL_rd (Rd_convNU rfl ikd3_5 (h' := uk8)) rfl rfl rfl ?_
  refine WL_rd (Rd_assign rfl) rfl rfl rfl ?_
  refine WL_end hK2 ?_
  refine WC_ret ?_
  exact hret.go () (Rs1 rfl rfl)

theorem lent_ct {X : Asn} {v : Value} {l : List B8} {ao : Option Addr} {cap : Nat} (hS : Sv [X] v 1 (eU .u8 (w := 8)) l ao cap := by assumption) (hl : l.length ≤ 900000000000 := by omega) : Ct Try.prog 29 [v] [X] (fun g : Option Nat × Nat => sl g.1 (lentB l).length g.2) (fun g => [X, arr g.1 g.2 1 5 (eU .u8) (lentB l)]) := by
  refine Ct_body (n := 32) Try.func29 rfl rfl rfl fun F w0 Q hret hnorm hp => ?_
  change WC _ _ _ _ _ _ _ (_ :: F)
  refine WC_sr fun K1 hK1 => ?_
  refine WL_rd (Rd_assign (v := sl none 0 0) rfl) rfl rfl rfl ?_
  refine WL_end hK1 ?_
  refine WC_sr fun K2 hK2 => ?_
  refine WL_rd (Rd_assign (v := sl none 0 0) rfl) rfl rfl rfl ?_
  refine WL_nilarr (eU .u8 (w := 8)) 1 5 ?_
  refine WL_end hK2 ?_
  refine WC_seq fun K3 hK3 => ?_
  refine WC_sr fun K4 hK4 => ?_
  refine WL_rd (Rd_assign rfl) rfl rfl rfl ?_
  refine WL_end hK4 ?_
  refine WC_block ?_
  rw [show ([] : List B8) = l.take 0 from rfl]
  refine WC_loopK (σ := Nat × (Option Nat) × Nat) (fun ⟨i', a, c⟩ => [(3, sl a (l.take i').length c), (4, .int .i64 ((i' : Nat) : Int))]) (fun ⟨i', a, c⟩ => [arr a c 1 5 (eU .u8) (l.take i')]) (fun ⟨i', a, c⟩ => i' ≤ l.length) (fun ⟨i', a, c⟩ => l.length - i') ⟨0, none, 0⟩ [0, 2, 5, 19, 20, 21, 22, 23, 24, 25, 26, 27, 28, 29, 30, 31] (by repeat (first | exact Kep.nil | apply Kep.drop rfl | apply Kep.keep rfl)) (by (try dsimp only); repeat (first | with_reducible exact Gv.nil | (with_reducible apply Gv.cons; · (repeat (first | with_reducible exact Ext.here | with_reducible apply Ext.there))))) ?_ ?_ Sub.refl ?_
  · exact Nat.zero_le _
  · (try dsimp only); exact (Wk.cons (by first | rfl | (simp only [List.length_append, List.length_cons, List.length_nil, List.length_replicate, Nat.zero_add]; rfl) | (simp; done)) (Wk.cons (by first | rfl | (simp only [List.length_append, List.length_cons, List.length_nil, List.length_replicate, Nat.zero_add]; rfl) | (simp; done)) Wk.nil))
  · rintro ⟨i', a, c⟩ hi K5 hK5
    simp only [List.cons_append, List.nil_append]
    have htl := List.length_take (i := i') (l := l)
    refine WC_seq fun K6 hK6 => ?_
    refine WC_sr fun K7 hK7 => ?_
    refine WL_rd (Rd_move rfl) rfl rfl rfl ?_
    refine WL_rd (Rd_move rfl) rfl rfl rfl ?_
    refine WL_rd (Rd_len_sv rfl rfl ud23) rfl rfl rfl ?_
    refine WL_rd (Rd_lssN rfl rfl) rfl rfl rfl ?_
    refine WL_end hK7 ?_
    refine WC_cond rfl (fun hc0 => ?_) (fun hc0 => ?_)
    · try simp only [decide_eq_true_eq, decide_eq_false_iff_not, Bool.not_eq_true', Bool.not_eq_false', Bool.not_eq_true, Bool.not_eq_false, Int.not_lt, Int.not_le, Nat.not_lt, Nat.not_le, Decidable.not_not, ne_eq] at hc0
      refine WC_skip ?_
      refine Ps_next hK6 ?_
      refine WC_seq fun K8 hK8 => ?_
      refine WC_block ?_
      refine WC_region ?_
      refine WL_rd (Rd_move rfl) rfl rfl rfl ?_
      refine WL_rd (Rd_move rfl) rfl rfl rfl ?_
      refine WL_rd (Rd_move rfl) rfl rfl rfl ?_
      refine WL_rd (Rd_index_sv _ rfl rfl ud23 sz5) rfl rfl rfl ?_
      refine WL_rd (Rd_loadU_sv rfl tk5) rfl rfl rfl ?_
      refine WL_ac (Ac_bs1 (xs := eU .u8 (l.getD i' 0#8)) rfl ud23 zr5 sz5) rfl rfl rfl ?_
      rintro _ _ ⟨b17, rfl, rfl⟩
      refine WL_ac (Ac_append1 (f := (eU .u8 (w := 8))) (encU .u8) (l.getD i' 0#8) rfl rfl ud23 ud23 el5) rfl rfl rfl ?_
      rintro _ _ ⟨a18, cap18, rfl, rfl⟩
      rw [take_snoc 0#8 (by omega), take_len1 (by omega)]
      refine WL_rd (Rd_assign rfl) rfl rfl rfl ?_
      refine WL_nil ?_
      refine Ps_next hK8 ?_
      refine WC_region ?_
      refine WL_rd (Rd_move rfl) rfl rfl rfl ?_
      refine WL_rd (Rd_addN (j := 1) rfl rfl) rfl rfl rfl ?_
      refine WL_rd (Rd_assign rfl) rfl rfl rfl ?_
      refine WL_nil ?_
      refine Ps_wk (by (try simp only [List.cons_append, List.nil_append]); repeat (first | with_reducible exact Wk.nil | refine Wk.cons (by first | rfl | (simp only [List.length_append, List.length_cons, List.length_nil, List.length_replicate, Nat.zero_add]; rfl) | (simp; done)) ?_)) (by (try simp only [List.cons_append, List.nil_append]); repeat (first | with_reducible exact Sub.refl | with_reducible exact Sub.nil | with_reducible refine Sub.cons (by repeat (first | with_reducible exact Ext.here | with_reducible apply Ext.there)) ?_ | with_reducible refine Sub.tail ?_)) (hK5 ⟨i' + 1, a18, cap18⟩ (by dsimp only; omega) (by dsimp only; omega))
    · try simp only [decide_eq_true_eq, decide_eq_false_iff_not, Bool.not_eq_true', Bool.not_eq_false', Bool.not_eq_true, Bool.not_eq_false, Int.not_lt, Int.not_le, Nat.not_lt, Nat.not_le, Decidable.not_not, ne_eq] at hc0
      obtain rfl : i' = l.length := by omega
      rw [List.take_length]
      rw [show arr a c 1 5 (eU .u8) l = arr a c 1 5 (eU .u8) (l ++ mks (mkB 0) l.length 0) from by simp [mks]]
      refine WC_exit ?_
      refine Ps_next hK3 ?_
      refine WC_seq fun K9 hK9 => ?_
      refine WC_sr fun K10 hK10 => ?_
      refine WL_rd (Rd_assign rfl) rfl rfl rfl ?_
      refine WL_end hK10 ?_
      refine WC_block ?_
      have hl0 : l ++ mks (mkB 0) l.length 0 = l := by simp [mks]
      refine WC_loopK (σ := Nat × (Option Nat) × Nat) (fun ⟨j, a2, c2⟩ => [(3, sl a2 (l.length + j) c2), (5, .int .i64 ((j : Nat) : Int))]) (fun ⟨j, a2, c2⟩ => [arr a2 c2 1 5 (eU .u8) (l ++ mks (mkB 0) l.length j)]) (fun ⟨j, a2, c2⟩ => j ≤ 70) (fun ⟨j, a2, c2⟩ => 70 - j) ⟨0, a, c⟩ [0, 2, 31] (by repeat (first | exact Kep.nil | apply Kep.drop rfl | apply Kep.keep rfl)) (by (try dsimp only); repeat (first | with_reducible exact Gv.nil | (with_reducible apply Gv.cons; · (repeat (first | with_reducible exact Ext.here | with_reducible apply Ext.there))))) ?_ ?_ Sub.refl ?_
      · exact Nat.zero_le _
      · (try dsimp only); exact (Wk.cons (by first | rfl | (simp only [List.length_append, List.length_cons, List.length_nil, List.length_replicate, Nat.zero_add]; rfl) | (simp; done)) (Wk.cons (by first | rfl | (simp only [List.length_append, List.length_cons, List.length_nil, List.length_replicate, Nat.zero_add]; rfl) | (simp; done)) Wk.nil))
      · rintro ⟨j, a2, c2⟩ hj K11 hK11
        simp only [List.cons_append, List.nil_append]
        have hml := mks_len (mkB 0) l.length j
        have hmj : (l ++ mks (mkB 0) l.length j).length = l.length + j := by rw [List.length_append, hml]
        refine WC_seq fun K12 hK12 => ?_
        refine WC_sr fun K13 hK13 => ?_
        refine WL_rd (Rd_move rfl) rfl rfl rfl ?_
        refine WL_rd (Rd_lssN (j := 70) rfl rfl) rfl rfl rfl ?_
        refine WL_end hK13 ?_
        refine WC_cond rfl (fun hc1 => ?_) (fun hc1 => ?_)
        · try simp only [decide_eq_true_eq, decide_eq_false_iff_not, Bool.not_eq_true', Bool.not_eq_false', Bool.not_eq_true, Bool.not_eq_false, Int.not_lt, Int.not_le, Nat.not_lt, Nat.not_le, Decidable.not_not, ne_eq] at hc1
          refine WC_skip ?_
          refine Ps_next hK12 ?_
          refine WC_seq fun K14 hK14 => ?_
          refine WC_block ?_
          refine WC_region ?_
          refine WL_rd (Rd_move rfl) rfl rfl rfl ?_
          refine WL_rd (Rd_move rfl) rfl rfl rfl ?_
          refine WL_rd (Rd_len_sv rfl rfl ud23) rfl rfl rfl ?_
          refine WL_rd (Rd_move rfl) rfl rfl rfl ?_
          refine WL_rd (Rd_addN rfl rfl) rfl rfl rfl ?_
          refine WL_ac (Ac_call cf36 rfl (hs := mark_ct (k := 0))) rfl rfl rfl ?_
          rintro _ _ ⟨⟨⟩, rfl, hA⟩
          simp only [List.cons_append, List.nil_append] at hA
          replace hA := hA.symm
          subst hA
          refine WL_ac (Ac_bs1 (xs := eU .u8 (mkB 0 (l.length + j))) rfl ud23 zr5 sz5) rfl rfl rfl ?_
          rintro _ _ ⟨b29, rfl, rfl⟩
          refine WL_ac (Ac_append1 (f := (eU .u8 (w := 8))) (encU .u8) (mkB 0 (l.length + j)) rfl rfl ud23 ud23 el5) rfl rfl rfl ?_
          rintro _ _ ⟨a30, cap30, rfl, rfl⟩
          rw [hmj, List.append_assoc, mks_succ]
          refine WL_rd (Rd_assign rfl) rfl rfl rfl ?_
          refine WL_nil ?_
          refine Ps_next hK14 ?_
          refine WC_region ?_
          refine WL_rd (Rd_move rfl) rfl rfl rfl ?_
          refine WL_rd (Rd_addN (j := 1) rfl rfl) rfl rfl rfl ?_
          refine WL_rd (Rd_assign rfl) rfl rfl rfl ?_
          refine WL_nil ?_
          refine Ps_wk (by (try simp only [List.cons_append, List.nil_append]); repeat (first | with_reducible exact Wk.nil | refine Wk.cons (by first | rfl | (simp only [List.length_append, List.length_cons, List.length_nil, List.length_replicate, Nat.zero_add]; rfl) | (simp; done)) ?_)) (by (try simp only [List.cons_append, List.nil_append]); repeat (first | with_reducible exact Sub.refl | with_reducible exact Sub.nil | with_reducible refine Sub.cons (by repeat (first | with_reducible exact Ext.here | with_reducible apply Ext.there)) ?_ | with_reducible refine Sub.tail ?_)) (hK11 ⟨j + 1, a30, cap30⟩ (by dsimp only; omega) (by dsimp only; omega))
        · try simp only [decide_eq_true_eq, decide_eq_false_iff_not, Bool.not_eq_true', Bool.not_eq_false', Bool.not_eq_true, Bool.not_eq_false, Int.not_lt, Int.not_le, Nat.not_lt, Nat.not_le, Decidable.not_not, ne_eq] at hc1
          obtain rfl : j = 70 := by omega
          rw [show l ++ mks (mkB 0) l.length 70 = lentB l from rfl]
          have hll := lentB_len l
          refine WC_exit ?_
          refine Ps_next hK9 ?_
          refine WC_sr fun K15 hK15 => ?_
          refine WL_rd (Rd_move rfl) rfl rfl rfl ?_
          refine WL_rd (Rd_assign rfl) rfl rfl rfl ?_
          refine WL_end hK15 ?_
          refine WC_ret ?_
          exact hret.goE (a2, c2) (Rs1 rfl rfl) (by dsimp only; rw [hll])

theorem kept_ct {X : Asn} {v v' : Value} {l l' : List B8} {ao ao' : Option Addr} {cap cap' : Nat} (hS : Sv [X] v 1 (eU .u8 (w := 8)) l ao cap := by assumption) (hS' : Sv [X] v' 1 (eU .u8 (w := 8)) l' ao' cap' := by assumption) (hl : l.length ≤ 900000000000 := by omega) (hl' : l'.length ≤ 900000000000 := by omega) : Ct Try.prog 30 [v, v'] [X] (fun _ : Unit => .bool (decide (l = lentB l'))) (fun _ => [X]) := by
  refine Ct_body (n := 9) Try.func30 rfl rfl rfl fun F w0 Q hret hnorm hp => ?_
  change WC _ _ _ _ _ _ _ (_ :: F)
  refine WC_sr fun K1 hK1 => ?_
  refine WL_rd (Rd_assign rfl) rfl rfl rfl ?_
  refine WL_end hK1 ?_
  refine WC_sr fun K2 hK2 => ?_
  refine WL_rd (Rd_move rfl) rfl rfl rfl ?_
  refine WL_rd (Rd_move rfl) rfl rfl rfl ?_
  refine WL_ac (Ac_call cf29 rfl (hs := lent_ct (hS := hS'))) rfl rfl rfl ?_
  rintro _ _ ⟨⟨a7, cap7⟩, rfl, hA⟩
  simp only [List.cons_append, List.nil_append] at hA
  replace hA := hA.symm
  subst hA
  refine WL_fact (fun w h => arr_facts (a := a7) (cap := cap7) (e := 1) (T := 5) (f := eU .u8 (w := 8)) (l := (lentB l')) (by repeat (first | with_reducible exact Has.here | with_reducible refine Has.there ?_)) h) (fun hSwf => ?_)
  have hSw : Sv [arr a7 cap7 1 5 (eU .u8) (lentB l')] (sl a7 (lentB l').length cap7) 1 (eU .u8 (w := 8)) (lentB l') (a7.map fun g => ⟨g, 0, none⟩) cap7 := Sv_own' (encU .u8 (w := 8)) hSwf.1 hSwf.2
  refine WL_ac (Ac_call cf9 rfl (hs := Ct.un0 (Xs := [arr a7 cap7 1 5 (eU .u8) (lentB l'), X]) (same_ct (X := sep [arr a7 cap7 1 5 (eU .u8) (lentB l'), X]) (hS := hS.pk (by repeat (first | with_reducible exact Has.here | with_reducible refine Has.there ?_))) (hS' := hSw.pk (by repeat (first | with_reducible exact Has.here | with_reducible refine Has.there ?_)))))) rfl rfl rfl ?_
  rintro _ _ ⟨⟨⟩, rfl, hA⟩
  simp only [List.cons_append, List.nil_append] at hA
  replace hA := hA.symm
  subst hA
  refine WL_rd (Rd_assign rfl) rfl rfl rfl ?_
  refine WL_end hK2 ?_
  refine WC_ret ?_
  exact hret.go () (Rs1 rfl rfl)

theorem over_ct {l : List B8} {a : Option Nat} {cap : Nat} (hl : l.length ≤ 900000000000 := by omega) : Ct Try.prog 31 [sl a l.length cap] [arr a cap 1 5 (eU .u8) l] (fun _ : Unit => .tuple #[]) (fun _ => [arr a cap 1 5 (eU .u8) (overB l.length)]) := by
  refine Ct_body (n := 15) Try.func31 rfl rfl rfl fun F w0 Q hret hnorm hp => ?_
  change WC _ _ _ _ _ _ _ (_ :: F)
  refine WC_sr fun K1 hK1 => ?_
  refine WL_rd (Rd_assign rfl) rfl rfl rfl ?_
  refine WL_end hK1 ?_
  refine WC_block ?_
  rw [show arr a cap 1 5 (eU .u8) l = arr a cap 1 5 (eU .u8) (ovl (fun i => mkB 7 (i + 3)) l 0) from by rw [ovl_0]]
  refine WC_loopK (σ := Nat) (fun i' => [(2, .int .i64 ((i' : Nat) : Int))]) (fun i' => [arr a cap 1 5 (eU .u8) (ovl (fun i => mkB 7 (i + 3)) l i')]) (fun i' => i' ≤ l.length) (fun i' => l.length - i') (0) [0] (by repeat (first | exact Kep.nil | apply Kep.drop rfl | apply Kep.keep rfl)) (by (try dsimp only); repeat (first | with_reducible exact Gv.nil | (with_reducible apply Gv.cons; · (repeat (first | with_reducible exact Ext.here | with_reducible apply Ext.there))))) ?_ ?_ Sub.refl ?_
  · exact Nat.zero_le _
  · (try dsimp only); exact (Wk.cons (by first | rfl | (simp only [List.length_append, List.length_cons, List.length_nil, List.length_replicate, Nat.zero_add]; rfl) | (simp; done)) Wk.nil)
  · rintro i' hi K2 hK2
    simp only [List.cons_append, List.nil_append]
    have hol := ovl_len (fun i => mkB 7 (i + 3)) hi
    refine WC_seq fun K3 hK3 => ?_
    refine WC_sr fun K4 hK4 => ?_
    refine WL_rd (Rd_move rfl) rfl rfl rfl ?_
    refine WL_rd (Rd_move rfl) rfl rfl rfl ?_
    refine WL_rd (Rd_len rfl rfl ud23) rfl rfl rfl ?_
    refine WL_rd (Rd_lssN rfl rfl) rfl rfl rfl ?_
    refine WL_end hK4 ?_
    refine WC_cond rfl (fun hc0 => ?_) (fun hc0 => ?_)
    · try simp only [decide_eq_true_eq, decide_eq_false_iff_not, Bool.not_eq_true', Bool.not_eq_false', Bool.not_eq_true, Bool.not_eq_false, Int.not_lt, Int.not_le, Nat.not_lt, Nat.not_le, Decidable.not_not, ne_eq] at hc0
      refine WC_some (a := a) (by repeat (first | with_reducible exact Has.here | with_reducible refine Has.there ?_)) (by omega) (fun gb hgb hcp => ?_)
      subst hgb
      refine WC_skip ?_
      refine Ps_next hK3 ?_
      refine WC_seq fun K5 hK5 => ?_
      refine WC_block ?_
      refine WC_region ?_
      refine WL_rd (Rd_move rfl) rfl rfl rfl ?_
      refine WL_rd (Rd_move rfl) rfl rfl rfl ?_
      refine WL_rd (Rd_move rfl) rfl rfl rfl ?_
      refine WL_rd (Rd_addN (j := 3) rfl rfl) rfl rfl rfl ?_
      refine WL_ac (Ac_call cf36 rfl (hs := mark_ct (k := 7))) rfl rfl rfl ?_
      rintro _ _ ⟨⟨⟩, rfl, hA⟩
      simp only [List.cons_append, List.nil_append] at hA
      replace hA := hA.symm
      subst hA
      refine WL_rd (Rd_index _ rfl rfl ud23 sz5) rfl rfl rfl ?_
      refine WL_ac0 (Ac_storeU rfl rfl sz5) rfl rfl ?_
      rintro _ _ rfl
      rw [ovl_set (fun i => mkB 7 (i + 3)) (by omega)]
      refine WL_nil ?_
      refine Ps_next hK5 ?_
      refine WC_region ?_
      refine WL_rd (Rd_move rfl) rfl rfl rfl ?_
      refine WL_rd (Rd_addN (j := 1) rfl rfl) rfl rfl rfl ?_
      refine WL_rd (Rd_assign rfl) rfl rfl rfl ?_
      refine WL_nil ?_
      refine Ps_wk (by (try simp only [List.cons_append, List.nil_append]); repeat (first | with_reducible exact Wk.nil | refine Wk.cons (by first | rfl | (simp only [List.length_append, List.length_cons, List.length_nil, List.length_replicate, Nat.zero_add]; rfl) | (simp; done)) ?_)) (by (try simp only [List.cons_append, List.nil_append]); repeat (first | with_reducible exact Sub.refl | with_reducible exact Sub.nil | with_reducible refine Sub.cons (by repeat (first | with_reducible exact Ext.here | with_reducible apply Ext.there)) ?_ | with_reducible refine Sub.tail ?_)) (hK2 (i' + 1) (by omega) (by omega))
    · try simp only [decide_eq_true_eq, decide_eq_false_iff_not, Bool.not_eq_true', Bool.not_eq_false', Bool.not_eq_true, Bool.not_eq_false, Int.not_lt, Int.not_le, Nat.not_lt, Nat.not_le, Decidable.not_not, ne_eq] at hc0
      obtain rfl : i' = l.length := by omega
      rw [ovl_all]
      rw [show mks (fun i => mkB 7 (i + 3)) 0 l.length = overB l.length from rfl]
      refine WC_exit ?_
      exact hnorm.go () (Rs0 rfl)
end Go.Proofs.Ytlcafifjhilleaa
namespace Go.Proofs.Ytlcafifjhilleaa
open Go.RowKit Go.SL Go.ShM
set_option maxHeartbeats 1000000
set_option maxRecDepth 20000
set_option linter.all false

theorem map_take_step {ps qs : List Pt} {i : Nat} {p q : Pt} (h : (ps.take i).map (·.l) = (qs.take i).map (·.l)) (hp : ps[i]? = some p) (hq : qs[i]? = some q) (he : p.l = q.l) : (ps.take (i + 1)).map (·.l) = (qs.take (i + 1)).map (·.l) := by
  rw [List.take_add_one, List.take_add_one, hp, hq, List.map_append, List.map_append, h]; simp [he]
theorem ne_mapat {ps qs : List Pt} {i : Nat} {p q : Pt} (hp : ps[i]? = some p) (hq : qs[i]? = some q) (he : ¬ p.l = q.l) : ¬ ps.map (·.l) = qs.map (·.l) := fun e => he (by
  have := congrArg (fun x => x[i]?) e
  simp only [List.getElem?_map, hp, hq, Option.map_some, Option.some.injEq] at this
  exact this)
theorem ne_maplen {ps qs : List Pt} (h : ps.length ≠ qs.length) : ¬ ps.map (·.l) = qs.map (·.l) := fun e => h (by have := congrArg List.length e; simpa using this)
theorem eq_maptake {ps qs : List Pt} (h : (ps.take ps.length).map (·.l) = (qs.take ps.length).map (·.l)) (hl : ps.length = qs.length) : ps.map (·.l) = qs.map (·.l) := by
  rw [List.take_length] at h
  rw [hl, List.take_length] at h
  exact h

theorem sameL_ct {X : Asn} {v v' : Value} {ps qs : List Pt} {ao ao' : Option Addr} {cap cap' : Nat} (hS : Sv [X] v 1 fP ps ao cap := by assumption) (hS' : Sv [X] v' 1 fP qs ao' cap' := by assumption) (hP : ∀ p ∈ ps, RdP [X] p := by assumption) (hQ : ∀ p ∈ qs, RdP [X] p := by assumption) (hl : ps.length ≤ 900000000000 := by omega) (hb : ∀ p ∈ ps, p.l.length ≤ 900000000000 := by assumption) : Ct Try.prog 8 [v, v'] [X] (fun _ : Unit => .bool (decide (ps.map (·.l) = qs.map (·.l)))) (fun _ => [X]) := by
  refine Ct_body (n := 27) Try.func8 rfl rfl rfl fun F w0 Q hret hnorm hp => ?_
  change WC _ _ _ _ _ _ _ (_ :: F)
  refine WC_sr fun K1 hK1 => ?_
  refine WL_rd (Rd_assign rfl) rfl rfl rfl ?_
  refine WL_end hK1 ?_
  refine WC_seq fun K2 hK2 => ?_
  refine WC_sr fun K3 hK3 => ?_
  refine WL_rd (Rd_move rfl) rfl rfl rfl ?_
  refine WL_rd (Rd_len_sv rfl rfl ud22) rfl rfl rfl ?_
  refine WL_rd (Rd_move rfl) rfl rfl rfl ?_
  refine WL_rd (Rd_len_sv rfl rfl ud22) rfl rfl rfl ?_
  refine WL_rd (Rd_neqN rfl rfl) rfl rfl rfl ?_
  refine WL_end hK3 ?_
  refine WC_cond rfl (fun hc0 => ?_) (fun hc0 => ?_)
  · try simp only [decide_eq_true_eq, decide_eq_false_iff_not, Bool.not_eq_true', Bool.not_eq_false', Bool.not_eq_true, Bool.not_eq_false, Int.not_lt, Int.not_le, Nat.not_lt, Nat.not_le, Decidable.not_not, ne_eq] at hc0
    refine WC_sr fun K4 hK4 => ?_
    refine WL_rd (Rd_assign rfl) rfl rfl rfl ?_
    refine WL_end hK4 ?_
    refine WC_ret ?_
    first | exact hret.goE () (Rs1 rfl rfl) (bF (ne_maplen hc0)) | exact hret.goE () (Rs1 rfl rfl) (bF (ne_mapat hpt hqt hc2)) | exact hret.goE () (Rs1 rfl rfl) (bT (eq_maptake hi.2 (by omega)))
  · try simp only [decide_eq_true_eq, decide_eq_false_iff_not, Bool.not_eq_true', Bool.not_eq_false', Bool.not_eq_true, Bool.not_eq_false, Int.not_lt, Int.not_le, Nat.not_lt, Nat.not_le, Decidable.not_not, ne_eq] at hc0
    refine WC_skip ?_
    refine Ps_next hK2 ?_
    refine WC_seq fun K5 hK5 => ?_
    refine WC_sr fun K6 hK6 => ?_
    refine WL_rd (Rd_assign rfl) rfl rfl rfl ?_
    refine WL_end hK6 ?_
    refine WC_block ?_
    refine WC_loopK (σ := Nat) (fun i' => [(5, .int .i64 ((i' : Nat) : Int))]) (fun i' => []) (fun i' => i' ≤ ps.length ∧ (ps.take i').map (·.l) = (qs.take i').map (·.l)) (fun i' => ps.length - i') (0) [0, 1] (by repeat (first | exact Kep.nil | apply Kep.drop rfl | apply Kep.keep rfl)) (by (try dsimp only); repeat (first | with_reducible exact Gv.nil | (with_reducible apply Gv.cons; · (repeat (first | with_reducible exact Ext.here | with_reducible apply Ext.there))))) ?_ ?_ Sub.refl ?_
    · exact ⟨Nat.zero_le _, rfl⟩
    · (try dsimp only); exact (Wk.cons (by first | rfl | (simp only [List.length_append, List.length_cons, List.length_nil, List.length_replicate, Nat.zero_add]; rfl) | (simp; done)) Wk.nil)
    · rintro i' hi K7 hK7
      simp only [List.cons_append, List.nil_append]
      refine WC_seq fun K8 hK8 => ?_
      refine WC_sr fun K9 hK9 => ?_
      refine WL_rd (Rd_move rfl) rfl rfl rfl ?_
      refine WL_rd (Rd_move rfl) rfl rfl rfl ?_
      refine WL_rd (Rd_len_sv rfl rfl ud22) rfl rfl rfl ?_
      refine WL_rd (Rd_lssN rfl rfl) rfl rfl rfl ?_
      refine WL_end hK9 ?_
      refine WC_cond rfl (fun hc1 => ?_) (fun hc1 => ?_)
      · try simp only [decide_eq_true_eq, decide_eq_false_iff_not, Bool.not_eq_true', Bool.not_eq_false', Bool.not_eq_true, Bool.not_eq_false, Int.not_lt, Int.not_le, Nat.not_lt, Nat.not_le, Decidable.not_not, ne_eq] at hc1
        obtain ⟨pt, hpt⟩ : ∃ p, ps[i']? = some p := ⟨_, List.getElem?_eq_getElem (by omega)⟩
        have hptS : Sv [X] pt.v 1 (eU .u8 (w := 8)) pt.l pt.ao pt.cap := hP pt (List.mem_of_getElem? hpt)
        obtain ⟨qt, hqt⟩ : ∃ p, qs[i']? = some p := ⟨_, List.getElem?_eq_getElem (by omega)⟩
        have hqtS : Sv [X] qt.v 1 (eU .u8 (w := 8)) qt.l qt.ao qt.cap := hQ qt (List.mem_of_getElem? hqt)
        have hpb := hb pt (List.mem_of_getElem? hpt)
        refine WC_skip ?_
        refine Ps_next hK8 ?_
        refine WC_seq fun K10 hK10 => ?_
        refine WC_block ?_
        refine WC_seq fun K11 hK11 => ?_
        refine WC_drawA mix (fun i => ([2, 2, 2, 2, 2, 2, 2, 2, 1, 2] : List Nat).getD i 0) ?_
        refine WJ_takeP 0 rfl (by kernel_rfl) (Rd_move rfl) rfl rfl rfl (hp _ _) ?_
        refine WJ_takeP 1 rfl (by kernel_rfl) (Rd_move rfl) rfl rfl rfl (hp _ _) ?_
        refine WJ_takeP 2 rfl (by kernel_rfl) (Rd_index_sv i' rfl rfl ud22 sz23 (hA := hS) (hi := by omega)) rfl rfl rfl (hp _ _) ?_
        refine WJ_tk 3 (Rd_load_sv (i := i') (j := 0) rfl tk23 (hA := hS) (hl := hpt)) hp ?_ rfl (by kernel_rfl) rfl rfl rfl
        refine WJ_takeP 4 rfl (by kernel_rfl) (Rd_move rfl) rfl rfl rfl (hp _ _) ?_
        refine WJ_takeP 5 rfl (by kernel_rfl) (Rd_move rfl) rfl rfl rfl (hp _ _) ?_
        refine WJ_takeP 6 rfl (by kernel_rfl) (Rd_index_sv i' rfl rfl ud22 sz23 (hA := hS') (hi := by omega)) rfl rfl rfl (hp _ _) ?_
        refine WJ_tk 7 (Rd_load_sv (i := i') (j := 0) rfl tk23 (hA := hS') (hl := hqt)) hp ?_ rfl (by kernel_rfl) rfl rfl rfl
        refine WJ_all (rs := [8]) (by kernel_rfl) rfl ?_
        refine WI_one ?_
        refine WI_ac rfl (Ac_call cf9 rfl (hs := same_ct (hS := hptS) (hS' := hqtS))) rfl rfl rfl rfl ?_
        rintro _ _ ⟨⟨⟩, rfl, hA⟩
        simp only [List.cons_append, List.nil_append] at hA
        replace hA := hA.symm
        subst hA
        refine ⟨(fun _ => (by repeat (first | with_reducible exact Sub.refl | with_reducible exact Sub.nil | with_reducible refine Sub.cons (by repeat (first | with_reducible exact Ext.here | with_reducible apply Ext.there)) ?_ | with_reducible refine Sub.tail ?_))), ?_⟩
        refine WJ_takeP 9 rfl (by kernel_rfl) (Rd_not rfl) rfl rfl rfl (hp _ _) ?_
        refine WJ_done (by kernel_rfl) ?_
        refine Ps_next hK11 ?_
        refine WC_cond rfl (fun hc2 => ?_) (fun hc2 => ?_)
        · try simp only [decide_eq_true_eq, decide_eq_false_iff_not, Bool.not_eq_true', Bool.not_eq_false', Bool.not_eq_true, Bool.not_eq_false, Int.not_lt, Int.not_le, Nat.not_lt, Nat.not_le, Decidable.not_not, ne_eq] at hc2
          refine WC_sr fun K12 hK12 => ?_
          refine WL_rd (Rd_assign rfl) rfl rfl rfl ?_
          refine WL_end hK12 ?_
          refine WC_ret ?_
          first | exact hret.goE () (Rs1 rfl rfl) (bF (ne_maplen hc0)) | exact hret.goE () (Rs1 rfl rfl) (bF (ne_mapat hpt hqt hc2)) | exact hret.goE () (Rs1 rfl rfl) (bT (eq_maptake hi.2 (by omega)))
        · try simp only [decide_eq_true_eq, decide_eq_false_iff_not, Bool.not_eq_true', Bool.not_eq_false', Bool.not_eq_true, Bool.not_eq_false, Int.not_lt, Int.not_le, Nat.not_lt, Nat.not_le, Decidable.not_not, ne_eq] at hc2
          refine WC_skip ?_
          refine Ps_next hK10 ?_
          refine WC_region ?_
          refine WL_rd (Rd_move rfl) rfl rfl rfl ?_
          refine WL_rd (Rd_addN (j := 1) rfl rfl) rfl rfl rfl ?_
          refine WL_rd (Rd_assign rfl) rfl rfl rfl ?_
          refine WL_nil ?_
          refine Ps_wk (by (try simp only [List.cons_append, List.nil_append]); repeat (first | with_reducible exact Wk.nil | refine Wk.cons (by first | rfl | (simp only [List.length_append, List.length_cons, List.length_nil, List.length_replicate, Nat.zero_add]; rfl) | (simp; done)) ?_)) (by (try simp only [List.cons_append, List.nil_append]); repeat (first | with_reducible exact Sub.refl | with_reducible exact Sub.nil | with_reducible refine Sub.cons (by repeat (first | with_reducible exact Ext.here | with_reducible apply Ext.there)) ?_ | with_reducible refine Sub.tail ?_)) (hK7 (i' + 1) (⟨by omega, map_take_step hi.2 hpt hqt hc2⟩) (by omega))
      · try simp only [decide_eq_true_eq, decide_eq_false_iff_not, Bool.not_eq_true', Bool.not_eq_false', Bool.not_eq_true, Bool.not_eq_false, Int.not_lt, Int.not_le, Nat.not_lt, Nat.not_le, Decidable.not_not, ne_eq] at hc1
        obtain rfl : i' = ps.length := by omega
        refine WC_exit ?_
        refine Ps_next hK5 ?_
        refine WC_sr fun K13 hK13 => ?_
        refine WL_rd (Rd_assign rfl) rfl rfl rfl ?_
        refine WL_end hK13 ?_
        refine WC_ret ?_
        first | exact hret.goE () (Rs1 rfl rfl) (bF (ne_maplen hc0)) | exact hret.goE () (Rs1 rfl rfl) (bF (ne_mapat hpt hqt hc2)) | exact hret.goE () (Rs1 rfl rfl) (bT (eq_maptake hi.2 (by omega)))
end Go.Proofs.Ytlcafifjhilleaa
namespace Go.Proofs.Ytlcafifjhilleaa
open Go.RowKit Go.SL Go.ShM
set_option maxHeartbeats 1000000
set_option maxRecDepth 20000
set_option linter.all false
theorem cf73 : cfn Try.prog 73 = true := by kernel_rfl
theorem cf74 : cfn Try.prog 74 = true := by kernel_rfl
theorem cf75 : cfn Try.prog 75 = true := by kernel_rfl
theorem cf85 : cfn Try.prog 85 = true := by kernel_rfl
theorem cf86 : cfn Try.prog 86 = true := by kernel_rfl
theorem sz86 : sz Try.prog 86 = some 1 := by kernel_rfl
theorem ud83 : Try.prog.underlying 83 = some (.slice 86) := by kernel_rfl
theorem zr86 : zr Try.prog 86 = some [.nilFunc] := by kernel_rfl
theorem word_ct {t : B8}  : Ct Try.prog 15 [.int .u8 ((t.toNat : Nat) : Int)] [] (fun _ : Unit => .string (wordS t)) (fun _ => []) := by
  refine Ct_body (n := 22) Try.func15 rfl rfl rfl fun F w0 Q hret hnorm hp => ?_
  change WC _ _ _ _ _ _ _ (F)
  refine WC_sr fun K1 hK1 => ?_
  refine WL_rd (Rd_assign rfl) rfl rfl rfl ?_
  refine WL_end hK1 ?_
  refine WC_seq fun K2 hK2 => ?_
  refine WC_sr fun K3 hK3 => ?_
  refine WL_rd (Rd_move rfl) rfl rfl rfl ?_
  refine WL_end hK3 ?_
  refine WC_block ?_
  refine WC_sr fun K4 hK4 => ?_
  refine WL_rd (Rd_eqlU (b := 1#8) rfl rfl) rfl rfl rfl ?_
  refine WL_rd (Rd_assign rfl) rfl rfl rfl ?_
  refine WL_end hK4 ?_
  refine WC_cond rfl (fun hc0 => ?_) (fun hc0 => ?_)
  · try simp only [decide_eq_true_eq, decide_eq_false_iff_not, Bool.not_eq_true', Bool.not_eq_false', Bool.not_eq_true, Bool.not_eq_false, Int.not_lt, Int.not_le, Nat.not_lt, Nat.not_le, Decidable.not_not, ne_eq] at hc0
    refine WC_sr fun K5 hK5 => ?_
    refine WL_rd (Rd_assign rfl) rfl rfl rfl ?_
    refine WL_end hK5 ?_
    refine WC_ret ?_
    exact hret.goE () (Rs1 rfl rfl) (by unfold wordS; (repeat (first | rw [if_pos (by assumption)] | rw [if_neg (by assumption)])); try rfl)
  · try simp only [decide_eq_true_eq, decide_eq_false_iff_not, Bool.not_eq_true', Bool.not_eq_false', Bool.not_eq_true, Bool.not_eq_false, Int.not_lt, Int.not_le, Nat.not_lt, Nat.not_le, Decidable.not_not, ne_eq] at hc0
    refine WC_sr fun K6 hK6 => ?_
    refine WL_rd (Rd_eqlU (b := 2#8) rfl rfl) rfl rfl rfl ?_
    refine WL_rd (Rd_assign rfl) rfl rfl rfl ?_
    refine WL_end hK6 ?_
    refine WC_cond rfl (fun hc1 => ?_) (fun hc1 => ?_)
    · try simp only [decide_eq_true_eq, decide_eq_false_iff_not, Bool.not_eq_true', Bool.not_eq_false', Bool.not_eq_true, Bool.not_eq_false, Int.not_lt, Int.not_le, Nat.not_lt, Nat.not_le, Decidable.not_not, ne_eq] at hc1
      refine WC_sr fun K7 hK7 => ?_
      refine WL_rd (Rd_assign rfl) rfl rfl rfl ?_
      refine WL_end hK7 ?_
      refine WC_ret ?_
      exact hret.goE () (Rs1 rfl rfl) (by unfold wordS; (repeat (first | rw [if_pos (by assumption)] | rw [if_neg (by assumption)])); try rfl)
    · try simp only [decide_eq_true_eq, decide_eq_false_iff_not, Bool.not_eq_true', Bool.not_eq_false', Bool.not_eq_true, Bool.not_eq_false, Int.not_lt, Int.not_le, Nat.not_lt, Nat.not_le, Decidable.not_not, ne_eq] at hc1
      refine WC_sr fun K8 hK8 => ?_
      refine WL_rd (Rd_eqlU (b := 3#8) rfl rfl) rfl rfl rfl ?_
      refine WL_rd (Rd_assign rfl) rfl rfl rfl ?_
      refine WL_end hK8 ?_
      refine WC_cond rfl (fun hc2 => ?_) (fun hc2 => ?_)
      · try simp only [decide_eq_true_eq, decide_eq_false_iff_not, Bool.not_eq_true', Bool.not_eq_false', Bool.not_eq_true, Bool.not_eq_false, Int.not_lt, Int.not_le, Nat.not_lt, Nat.not_le, Decidable.not_not, ne_eq] at hc2
        refine WC_sr fun K9 hK9 => ?_
        refine WL_rd (Rd_assign rfl) rfl rfl rfl ?_
        refine WL_end hK9 ?_
        refine WC_ret ?_
        exact hret.goE () (Rs1 rfl rfl) (by unfold wordS; (repeat (first | rw [if_pos (by assumption)] | rw [if_neg (by assumption)])); try rfl)
      · try simp only [decide_eq_true_eq, decide_eq_false_iff_not, Bool.not_eq_true', Bool.not_eq_false', Bool.not_eq_true, Bool.not_eq_false, Int.not_lt, Int.not_le, Nat.not_lt, Nat.not_le, Decidable.not_not, ne_eq] at hc2
        refine WC_sr fun K10 hK10 => ?_
        refine WL_rd (Rd_eqlU (b := 4#8) rfl rfl) rfl rfl rfl ?_
        refine WL_rd (Rd_assign rfl) rfl rfl rfl ?_
        refine WL_end hK10 ?_
        refine WC_cond rfl (fun hc3 => ?_) (fun hc3 => ?_)
        · try simp only [decide_eq_true_eq, decide_eq_false_iff_not, Bool.not_eq_true', Bool.not_eq_false', Bool.not_eq_true, Bool.not_eq_false, Int.not_lt, Int.not_le, Nat.not_lt, Nat.not_le, Decidable.not_not, ne_eq] at hc3
          refine WC_sr fun K11 hK11 => ?_
          refine WL_rd (Rd_assign rfl) rfl rfl rfl ?_
          refine WL_end hK11 ?_
          refine WC_ret ?_
          exact hret.goE () (Rs1 rfl rfl) (by unfold wordS; (repeat (first | rw [if_pos (by assumption)] | rw [if_neg (by assumption)])); try rfl)
        · try simp only [decide_eq_true_eq, decide_eq_false_iff_not, Bool.not_eq_true', Bool.not_eq_false', Bool.not_eq_true, Bool.not_eq_false, Int.not_lt, Int.not_le, Nat.not_lt, Nat.not_le, Decidable.not_not, ne_eq] at hc3
          refine WC_sr fun K12 hK12 => ?_
          refine WL_rd (Rd_eqlU (b := 5#8) rfl rfl) rfl rfl rfl ?_
          refine WL_rd (Rd_assign rfl) rfl rfl rfl ?_
          refine WL_end hK12 ?_
          refine WC_cond rfl (fun hc4 => ?_) (fun hc4 => ?_)
          · try simp only [decide_eq_true_eq, decide_eq_false_iff_not, Bool.not_eq_true', Bool.not_eq_false', Bool.not_eq_true, Bool.not_eq_false, Int.not_lt, Int.not_le, Nat.not_lt, Nat.not_le, Decidable.not_not, ne_eq] at hc4
            refine WC_sr fun K13 hK13 => ?_
            refine WL_rd (Rd_assign rfl) rfl rfl rfl ?_
            refine WL_end hK13 ?_
            refine WC_ret ?_
            exact hret.goE () (Rs1 rfl rfl) (by unfold wordS; (repeat (first | rw [if_pos (by assumption)] | rw [if_neg (by assumption)])); try rfl)
          · try simp only [decide_eq_true_eq, decide_eq_false_iff_not, Bool.not_eq_true', Bool.not_eq_false', Bool.not_eq_true, Bool.not_eq_false, Int.not_lt, Int.not_le, Nat.not_lt, Nat.not_le, Decidable.not_not, ne_eq] at hc4
            refine WC_sr fun K14 hK14 => ?_
            refine WL_rd (Rd_eqlU (b := 6#8) rfl rfl) rfl rfl rfl ?_
            refine WL_rd (Rd_assign rfl) rfl rfl rfl ?_
            refine WL_end hK14 ?_
            refine WC_cond rfl (fun hc5 => ?_) (fun hc5 => ?_)
            · try simp only [decide_eq_true_eq, decide_eq_false_iff_not, Bool.not_eq_true', Bool.not_eq_false', Bool.not_eq_true, Bool.not_eq_false, Int.not_lt, Int.not_le, Nat.not_lt, Nat.not_le, Decidable.not_not, ne_eq] at hc5
              refine WC_sr fun K15 hK15 => ?_
              refine WL_rd (Rd_assign rfl) rfl rfl rfl ?_
              refine WL_end hK15 ?_
              refine WC_ret ?_
              exact hret.goE () (Rs1 rfl rfl) (by unfold wordS; (repeat (first | rw [if_pos (by assumption)] | rw [if_neg (by assumption)])); try rfl)
            · try simp only [decide_eq_true_eq, decide_eq_false_iff_not, Bool.not_eq_true', Bool.not_eq_false', Bool.not_eq_true, Bool.not_eq_false, Int.not_lt, Int.not_le, Nat.not_lt, Nat.not_le, Decidable.not_not, ne_eq] at hc5
              refine WC_sr fun K16 hK16 => ?_
              refine WL_rd (Rd_eqlU (b := 7#8) rfl rfl) rfl rfl rfl ?_
              refine WL_rd (Rd_assign rfl) rfl rfl rfl ?_
              refine WL_end hK16 ?_
              refine WC_cond rfl (fun hc6 => ?_) (fun hc6 => ?_)
              · try simp only [decide_eq_true_eq, decide_eq_false_iff_not, Bool.not_eq_true', Bool.not_eq_false', Bool.not_eq_true, Bool.not_eq_false, Int.not_lt, Int.not_le, Nat.not_lt, Nat.not_le, Decidable.not_not, ne_eq] at hc6
                refine WC_sr fun K17 hK17 => ?_
                refine WL_rd (Rd_assign rfl) rfl rfl rfl ?_
                refine WL_end hK17 ?_
                refine WC_ret ?_
                exact hret.goE () (Rs1 rfl rfl) (by unfold wordS; (repeat (first | rw [if_pos (by assumption)] | rw [if_neg (by assumption)])); try rfl)
              · try simp only [decide_eq_true_eq, decide_eq_false_iff_not, Bool.not_eq_true', Bool.not_eq_false', Bool.not_eq_true, Bool.not_eq_false, Int.not_lt, Int.not_le, Nat.not_lt, Nat.not_le, Decidable.not_not, ne_eq] at hc6
                refine WC_sr fun K18 hK18 => ?_
                refine WL_rd (Rd_eqlU (b := 8#8) rfl rfl) rfl rfl rfl ?_
                refine WL_rd (Rd_assign rfl) rfl rfl rfl ?_
                refine WL_end hK18 ?_
                refine WC_cond rfl (fun hc7 => ?_) (fun hc7 => ?_)
                · try simp only [decide_eq_true_eq, decide_eq_false_iff_not, Bool.not_eq_true', Bool.not_eq_false', Bool.not_eq_true, Bool.not_eq_false, Int.not_lt, Int.not_le, Nat.not_lt, Nat.not_le, Decidable.not_not, ne_eq] at hc7
                  refine WC_sr fun K19 hK19 => ?_
                  refine WL_rd (Rd_assign rfl) rfl rfl rfl ?_
                  refine WL_end hK19 ?_
                  refine WC_ret ?_
                  exact hret.goE () (Rs1 rfl rfl) (by unfold wordS; (repeat (first | rw [if_pos (by assumption)] | rw [if_neg (by assumption)])); try rfl)
                · try simp only [decide_eq_true_eq, decide_eq_false_iff_not, Bool.not_eq_true', Bool.not_eq_false', Bool.not_eq_true, Bool.not_eq_false, Int.not_lt, Int.not_le, Nat.not_lt, Nat.not_le, Decidable.not_not, ne_eq] at hc7
                  refine WC_sr fun K20 hK20 => ?_
                  refine WL_rd (Rd_eqlU (b := 9#8) rfl rfl) rfl rfl rfl ?_
                  refine WL_rd (Rd_assign rfl) rfl rfl rfl ?_
                  refine WL_end hK20 ?_
                  refine WC_cond rfl (fun hc8 => ?_) (fun hc8 => ?_)
                  · try simp only [decide_eq_true_eq, decide_eq_false_iff_not, Bool.not_eq_true', Bool.not_eq_false', Bool.not_eq_true, Bool.not_eq_false, Int.not_lt, Int.not_le, Nat.not_lt, Nat.not_le, Decidable.not_not, ne_eq] at hc8
                    refine WC_sr fun K21 hK21 => ?_
                    refine WL_rd (Rd_assign rfl) rfl rfl rfl ?_
                    refine WL_end hK21 ?_
                    refine WC_ret ?_
                    exact hret.goE () (Rs1 rfl rfl) (by unfold wordS; (repeat (first | rw [if_pos (by assumption)] | rw [if_neg (by assumption)])); try rfl)
                  · try simp only [decide_eq_true_eq, decide_eq_false_iff_not, Bool.not_eq_true', Bool.not_eq_false', Bool.not_eq_true, Bool.not_eq_false, Int.not_lt, Int.not_le, Nat.not_lt, Nat.not_le, Decidable.not_not, ne_eq] at hc8
                    refine WC_skip ?_
                    refine Ps_next hK2 ?_
                    refine WC_sr fun K22 hK22 => ?_
                    refine WL_rd (Rd_assign rfl) rfl rfl rfl ?_
                    refine WL_end hK22 ?_
                    refine WC_ret ?_
                    exact hret.goE () (Rs1 rfl rfl) (by unfold wordS; (repeat (first | rw [if_pos (by assumption)] | rw [if_neg (by assumption)])); try rfl)

theorem wordR_ct {t : B8}  : Ct Try.prog 34 [.int .u8 ((t.toNat : Nat) : Int)] [] (fun _ : Unit => .string (wordS t)) (fun _ => []) := by
  refine Ct_body (n := 22) Try.func34 rfl rfl rfl fun F w0 Q hret hnorm hp => ?_
  change WC _ _ _ _ _ _ _ (F)
  refine WC_sr fun K1 hK1 => ?_
  refine WL_rd (Rd_assign rfl) rfl rfl rfl ?_
  refine WL_end hK1 ?_
  refine WC_seq fun K2 hK2 => ?_
  refine WC_sr fun K3 hK3 => ?_
  refine WL_rd (Rd_move rfl) rfl rfl rfl ?_
  refine WL_end hK3 ?_
  refine WC_block ?_
  refine WC_sr fun K4 hK4 => ?_
  refine WL_rd (Rd_eqlU (b := 1#8) rfl rfl) rfl rfl rfl ?_
  refine WL_rd (Rd_assign rfl) rfl rfl rfl ?_
  refine WL_end hK4 ?_
  refine WC_cond rfl (fun hc0 => ?_) (fun hc0 => ?_)
  · try simp only [decide_eq_true_eq, decide_eq_false_iff_not, Bool.not_eq_true', Bool.not_eq_false', Bool.not_eq_true, Bool.not_eq_false, Int.not_lt, Int.not_le, Nat.not_lt, Nat.not_le, Decidable.not_not, ne_eq] at hc0
    refine WC_sr fun K5 hK5 => ?_
    refine WL_rd (Rd_assign rfl) rfl rfl rfl ?_
    refine WL_end hK5 ?_
    refine WC_ret ?_
    exact hret.goE () (Rs1 rfl rfl) (by unfold wordS; (repeat (first | rw [if_pos (by assumption)] | rw [if_neg (by assumption)])); try rfl)
  · try simp only [decide_eq_true_eq, decide_eq_false_iff_not, Bool.not_eq_true', Bool.not_eq_false', Bool.not_eq_true, Bool.not_eq_false, Int.not_lt, Int.not_le, Nat.not_lt, Nat.not_le, Decidable.not_not, ne_eq] at hc0
    refine WC_sr fun K6 hK6 => ?_
    refine WL_rd (Rd_eqlU (b := 2#8) rfl rfl) rfl rfl rfl ?_
    refine WL_rd (Rd_assign rfl) rfl rfl rfl ?_
    refine WL_end hK6 ?_
    refine WC_cond rfl (fun hc1 => ?_) (fun hc1 => ?_)
    · try simp only [decide_eq_true_eq, decide_eq_false_iff_not, Bool.not_eq_true', Bool.not_eq_false', Bool.not_eq_true, Bool.not_eq_false, Int.not_lt, Int.not_le, Nat.not_lt, Nat.not_le, Decidable.not_not, ne_eq] at hc1
      refine WC_sr fun K7 hK7 => ?_
      refine WL_rd (Rd_assign rfl) rfl rfl rfl ?_
      refine WL_end hK7 ?_
      refine WC_ret ?_
      exact hret.goE () (Rs1 rfl rfl) (by unfold wordS; (repeat (first | rw [if_pos (by assumption)] | rw [if_neg (by assumption)])); try rfl)
    · try simp only [decide_eq_true_eq, decide_eq_false_iff_not, Bool.not_eq_true', Bool.not_eq_false', Bool.not_eq_true, Bool.not_eq_false, Int.not_lt, Int.not_le, Nat.not_lt, Nat.not_le, Decidable.not_not, ne_eq] at hc1
      refine WC_sr fun K8 hK8 => ?_
      refine WL_rd (Rd_eqlU (b := 3#8) rfl rfl) rfl rfl rfl ?_
      refine WL_rd (Rd_assign rfl) rfl rfl rfl ?_
      refine WL_end hK8 ?_
      refine WC_cond rfl (fun hc2 => ?_) (fun hc2 => ?_)
      · try simp only [decide_eq_true_eq, decide_eq_false_iff_not, Bool.not_eq_true', Bool.not_eq_false', Bool.not_eq_true, Bool.not_eq_false, Int.not_lt, Int.not_le, Nat.not_lt, Nat.not_le, Decidable.not_not, ne_eq] at hc2
        refine WC_sr fun K9 hK9 => ?_
        refine WL_rd (Rd_assign rfl) rfl rfl rfl ?_
        refine WL_end hK9 ?_
        refine WC_ret ?_
        exact hret.goE () (Rs1 rfl rfl) (by unfold wordS; (repeat (first | rw [if_pos (by assumption)] | rw [if_neg (by assumption)])); try rfl)
      · try simp only [decide_eq_true_eq, decide_eq_false_iff_not, Bool.not_eq_true', Bool.not_eq_false', Bool.not_eq_true, Bool.not_eq_false, Int.not_lt, Int.not_le, Nat.not_lt, Nat.not_le, Decidable.not_not, ne_eq] at hc2
        refine WC_sr fun K10 hK10 => ?_
        refine WL_rd (Rd_eqlU (b := 4#8) rfl rfl) rfl rfl rfl ?_
        refine WL_rd (Rd_assign rfl) rfl rfl rfl ?_
        refine WL_end hK10 ?_
        refine WC_cond rfl (fun hc3 => ?_) (fun hc3 => ?_)
        · try simp only [decide_eq_true_eq, decide_eq_false_iff_not, Bool.not_eq_true', Bool.not_eq_false', Bool.not_eq_true, Bool.not_eq_false, Int.not_lt, Int.not_le, Nat.not_lt, Nat.not_le, Decidable.not_not, ne_eq] at hc3
          refine WC_sr fun K11 hK11 => ?_
          refine WL_rd (Rd_assign rfl) rfl rfl rfl ?_
          refine WL_end hK11 ?_
          refine WC_ret ?_
          exact hret.goE () (Rs1 rfl rfl) (by unfold wordS; (repeat (first | rw [if_pos (by assumption)] | rw [if_neg (by assumption)])); try rfl)
        · try simp only [decide_eq_true_eq, decide_eq_false_iff_not, Bool.not_eq_true', Bool.not_eq_false', Bool.not_eq_true, Bool.not_eq_false, Int.not_lt, Int.not_le, Nat.not_lt, Nat.not_le, Decidable.not_not, ne_eq] at hc3
          refine WC_sr fun K12 hK12 => ?_
          refine WL_rd (Rd_eqlU (b := 5#8) rfl rfl) rfl rfl rfl ?_
          refine WL_rd (Rd_assign rfl) rfl rfl rfl ?_
          refine WL_end hK12 ?_
          refine WC_cond rfl (fun hc4 => ?_) (fun hc4 => ?_)
          · try simp only [decide_eq_true_eq, decide_eq_false_iff_not, Bool.not_eq_true', Bool.not_eq_false', Bool.not_eq_true, Bool.not_eq_false, Int.not_lt, Int.not_le, Nat.not_lt, Nat.not_le, Decidable.not_not, ne_eq] at hc4
            refine WC_sr fun K13 hK13 => ?_
            refine WL_rd (Rd_assign rfl) rfl rfl rfl ?_
            refine WL_end hK13 ?_
            refine WC_ret ?_
            exact hret.goE () (Rs1 rfl rfl) (by unfold wordS; (repeat (first | rw [if_pos (by assumption)] | rw [if_neg (by assumption)])); try rfl)
          · try simp only [decide_eq_true_eq, decide_eq_false_iff_not, Bool.not_eq_true', Bool.not_eq_false', Bool.not_eq_true, Bool.not_eq_false, Int.not_lt, Int.not_le, Nat.not_lt, Nat.not_le, Decidable.not_not, ne_eq] at hc4
            refine WC_sr fun K14 hK14 => ?_
            refine WL_rd (Rd_eqlU (b := 6#8) rfl rfl) rfl rfl rfl ?_
            refine WL_rd (Rd_assign rfl) rfl rfl rfl ?_
            refine WL_end hK14 ?_
            refine WC_cond rfl (fun hc5 => ?_) (fun hc5 => ?_)
            · try simp only [decide_eq_true_eq, decide_eq_false_iff_not, Bool.not_eq_true', Bool.not_eq_false', Bool.not_eq_true, Bool.not_eq_false, Int.not_lt, Int.not_le, Nat.not_lt, Nat.not_le, Decidable.not_not, ne_eq] at hc5
              refine WC_sr fun K15 hK15 => ?_
              refine WL_rd (Rd_assign rfl) rfl rfl rfl ?_
              refine WL_end hK15 ?_
              refine WC_ret ?_
              exact hret.goE () (Rs1 rfl rfl) (by unfold wordS; (repeat (first | rw [if_pos (by assumption)] | rw [if_neg (by assumption)])); try rfl)
            · try simp only [decide_eq_true_eq, decide_eq_false_iff_not, Bool.not_eq_true', Bool.not_eq_false', Bool.not_eq_true, Bool.not_eq_false, Int.not_lt, Int.not_le, Nat.not_lt, Nat.not_le, Decidable.not_not, ne_eq] at hc5
              refine WC_sr fun K16 hK16 => ?_
              refine WL_rd (Rd_eqlU (b := 7#8) rfl rfl) rfl rfl rfl ?_
              refine WL_rd (Rd_assign rfl) rfl rfl rfl ?_
              refine WL_end hK16 ?_
              refine WC_cond rfl (fun hc6 => ?_) (fun hc6 => ?_)
              · try simp only [decide_eq_true_eq, decide_eq_false_iff_not, Bool.not_eq_true', Bool.not_eq_false', Bool.not_eq_true, Bool.not_eq_false, Int.not_lt, Int.not_le, Nat.not_lt, Nat.not_le, Decidable.not_not, ne_eq] at hc6
                refine WC_sr fun K17 hK17 => ?_
                refine WL_rd (Rd_assign rfl) rfl rfl rfl ?_
                refine WL_end hK17 ?_
                refine WC_ret ?_
                exact hret.goE () (Rs1 rfl rfl) (by unfold wordS; (repeat (first | rw [if_pos (by assumption)] | rw [if_neg (by assumption)])); try rfl)
              · try simp only [decide_eq_true_eq, decide_eq_false_iff_not, Bool.not_eq_true', Bool.not_eq_false', Bool.not_eq_true, Bool.not_eq_false, Int.not_lt, Int.not_le, Nat.not_lt, Nat.not_le, Decidable.not_not, ne_eq] at hc6
                refine WC_sr fun K18 hK18 => ?_
                refine WL_rd (Rd_eqlU (b := 8#8) rfl rfl) rfl rfl rfl ?_
                refine WL_rd (Rd_assign rfl) rfl rfl rfl ?_
                refine WL_end hK18 ?_
                refine WC_cond rfl (fun hc7 => ?_) (fun hc7 => ?_)
                · try simp only [decide_eq_true_eq, decide_eq_false_iff_not, Bool.not_eq_true', Bool.not_eq_false', Bool.not_eq_true, Bool.not_eq_false, Int.not_lt, Int.not_le, Nat.not_lt, Nat.not_le, Decidable.not_not, ne_eq] at hc7
                  refine WC_sr fun K19 hK19 => ?_
                  refine WL_rd (Rd_assign rfl) rfl rfl rfl ?_
                  refine WL_end hK19 ?_
                  refine WC_ret ?_
                  exact hret.goE () (Rs1 rfl rfl) (by unfold wordS; (repeat (first | rw [if_pos (by assumption)] | rw [if_neg (by assumption)])); try rfl)
                · try simp only [decide_eq_true_eq, decide_eq_false_iff_not, Bool.not_eq_true', Bool.not_eq_false', Bool.not_eq_true, Bool.not_eq_false, Int.not_lt, Int.not_le, Nat.not_lt, Nat.not_le, Decidable.not_not, ne_eq] at hc7
                  refine WC_sr fun K20 hK20 => ?_
                  refine WL_rd (Rd_eqlU (b := 9#8) rfl rfl) rfl rfl rfl ?_
                  refine WL_rd (Rd_assign rfl) rfl rfl rfl ?_
                  refine WL_end hK20 ?_
                  refine WC_cond rfl (fun hc8 => ?_) (fun hc8 => ?_)
                  · try simp only [decide_eq_true_eq, decide_eq_false_iff_not, Bool.not_eq_true', Bool.not_eq_false', Bool.not_eq_true, Bool.not_eq_false, Int.not_lt, Int.not_le, Nat.not_lt, Nat.not_le, Decidable.not_not, ne_eq] at hc8
                    refine WC_sr fun K21 hK21 => ?_
                    refine WL_rd (Rd_assign rfl) rfl rfl rfl ?_
                    refine WL_end hK21 ?_
                    refine WC_ret ?_
                    exact hret.goE () (Rs1 rfl rfl) (by unfold wordS; (repeat (first | rw [if_pos (by assumption)] | rw [if_neg (by assumption)])); try rfl)
                  · try simp only [decide_eq_true_eq, decide_eq_false_iff_not, Bool.not_eq_true', Bool.not_eq_false', Bool.not_eq_true, Bool.not_eq_false, Int.not_lt, Int.not_le, Nat.not_lt, Nat.not_le, Decidable.not_not, ne_eq] at hc8
                    refine WC_skip ?_
                    refine Ps_next hK2 ?_
                    refine WC_sr fun K22 hK22 => ?_
                    refine WL_rd (Rd_assign rfl) rfl rfl rfl ?_
                    refine WL_end hK22 ?_
                    refine WC_ret ?_
                    exact hret.goE () (Rs1 rfl rfl) (by unfold wordS; (repeat (first | rw [if_pos (by assumption)] | rw [if_neg (by assumption)])); try rfl)

theorem any_ct {k : Nat}  : Ct Try.prog 73 [.int .i64 ((k : Nat) : Int)] [] (fun _ : Unit => .bool true) (fun _ => []) := by
  refine Ct_body (n := 3) Try.func73 rfl rfl rfl fun F w0 Q hret hnorm hp => ?_
  change WC _ _ _ _ _ _ _ (F)
  refine WC_sr fun K1 hK1 => ?_
  refine WL_rd (Rd_assign rfl) rfl rfl rfl ?_
  refine WL_end hK1 ?_
  refine WC_sr fun K2 hK2 => ?_
  refine WL_rd (Rd_assign rfl) rfl rfl rfl ?_
  refine WL_end hK2 ?_
  refine WC_ret ?_
  exact hret.go () (Rs1 rfl rfl)

theorem mostf_ct {k n b : Nat}  : Ct Try.prog 85 [.int .i64 ((k : Nat) : Int), .pointer (some ⟨b, 0, none⟩)] [cl b 3 [.int .i64 ((n : Nat) : Int)]] (fun _ : Unit => .bool (decide (k ≤ n))) (fun _ => [cl b 3 [.int .i64 ((n : Nat) : Int)]]) := by
  refine Ct_body (n := 7) Try.func85 rfl rfl rfl fun F w0 Q hret hnorm hp => ?_
  change WC _ _ _ _ _ _ _ (_ :: F)
  refine WC_sr fun K1 hK1 => ?_
  refine WL_rd (Rd_assign rfl) rfl rfl rfl ?_
  refine WL_end hK1 ?_
  refine WC_sr fun K2 hK2 => ?_
  refine WL_rd (Rd_move rfl) rfl rfl rfl ?_
  refine WL_rd (Rd_load rfl tk3 (v := .int .i64 ((n : Nat) : Int))) rfl rfl rfl ?_
  refine WL_rd (Rd_leqN rfl rfl) rfl rfl rfl ?_
  refine WL_rd (Rd_assign rfl) rfl rfl rfl ?_
  refine WL_end hK2 ?_
  refine WC_ret ?_
  exact hret.go () (Rs1 rfl rfl)

theorem justf_ct {k n b : Nat}  : Ct Try.prog 86 [.int .i64 ((k : Nat) : Int), .pointer (some ⟨b, 0, none⟩)] [cl b 3 [.int .i64 ((n : Nat) : Int)]] (fun _ : Unit => .bool (decide (k = n))) (fun _ => [cl b 3 [.int .i64 ((n : Nat) : Int)]]) := by
  refine Ct_body (n := 7) Try.func86 rfl rfl rfl fun F w0 Q hret hnorm hp => ?_
  change WC _ _ _ _ _ _ _ (_ :: F)
  refine WC_sr fun K1 hK1 => ?_
  refine WL_rd (Rd_assign rfl) rfl rfl rfl ?_
  refine WL_end hK1 ?_
  refine WC_sr fun K2 hK2 => ?_
  refine WL_rd (Rd_move rfl) rfl rfl rfl ?_
  refine WL_rd (Rd_load rfl tk3 (v := .int .i64 ((n : Nat) : Int))) rfl rfl rfl ?_
  refine WL_rd (Rd_eqlN rfl rfl) rfl rfl rfl ?_
  refine WL_rd (Rd_assign rfl) rfl rfl rfl ?_
  refine WL_end hK2 ?_
  refine WC_ret ?_
  exact hret.go () (Rs1 rfl rfl)

theorem most_ct {n : Nat}  : Ct Try.prog 74 [.int .i64 ((n : Nat) : Int)] [] (fun b : Nat => .func (.func 85) #[] #[.pointer (some ⟨b, 0, none⟩)]) (fun b => [cl b 3 [.int .i64 ((n : Nat) : Int)]]) := by
  refine Ct_body (n := 4) Try.func74 rfl rfl rfl fun F w0 Q hret hnorm hp => ?_
  change WC _ _ _ _ _ _ _ (F)
  refine WC_sr fun K1 hK1 => ?_
  refine WL_ac (Ac_box (xs := [.int .i64 ((n : Nat) : Int)]) rfl rfl) rfl rfl rfl ?_
  rintro _ _ ⟨b1, rfl, rfl⟩
  refine WL_rd (Rd_assign rfl) rfl rfl rfl ?_
  refine WL_end hK1 ?_
  refine WC_sr fun K2 hK2 => ?_
  refine WL_rd (Rd_makeFunc rfl rfl) rfl rfl rfl ?_
  refine WL_rd (Rd_assign rfl) rfl rfl rfl ?_
  refine WL_end hK2 ?_
  refine WC_ret ?_
  exact hret.go b1 (Rs1 rfl rfl)

theorem just_ct {n : Nat}  : Ct Try.prog 75 [.int .i64 ((n : Nat) : Int)] [] (fun b : Nat => .func (.func 86) #[] #[.pointer (some ⟨b, 0, none⟩)]) (fun b => [cl b 3 [.int .i64 ((n : Nat) : Int)]]) := by
  refine Ct_body (n := 4) Try.func75 rfl rfl rfl fun F w0 Q hret hnorm hp => ?_
  change WC _ _ _ _ _ _ _ (F)
  refine WC_sr fun K1 hK1 => ?_
  refine WL_ac (Ac_box (xs := [.int .i64 ((n : Nat) : Int)]) rfl rfl) rfl rfl rfl ?_
  rintro _ _ ⟨b1, rfl, rfl⟩
  refine WL_rd (Rd_assign rfl) rfl rfl rfl ?_
  refine WL_end hK1 ?_
  refine WC_sr fun K2 hK2 => ?_
  refine WL_rd (Rd_makeFunc rfl rfl) rfl rfl rfl ?_
  refine WL_rd (Rd_assign rfl) rfl rfl rfl ?_
  refine WL_end hK2 ?_
  refine WC_ret ?_
  exact hret.go b1 (Rs1 rfl rfl)

def Bd.v : Bd → Value
  | .any => .func (.func 73) #[] #[]
  | .most _ b => .func (.func 85) #[] #[.pointer (some ⟨b, 0, none⟩)]
  | .just _ b => .func (.func 86) #[] #[.pointer (some ⟨b, 0, none⟩)]
def fBd (b : Bd) : List Value := [Bd.v b]
theorem encBd : Enc fBd 1 := ⟨fun _ => rfl, fun x v hv => by cases x <;> simp [fBd, Bd.v] at hv <;> subst hv <;> rfl⟩
def bdA : Bd → Asn
  | .any => sep []
  | .most n b => cl b 3 [.int .i64 ((n : Nat) : Int)]
  | .just n b => cl b 3 [.int .i64 ((n : Nat) : Int)]
theorem sat_bd {bds : List Bd} {i : Nat} {bd : Bd} {R : List Asn} {w : World} (hb : bds[i]? = some bd) (h : sat w (bdA bd :: star bdA (bds.eraseIdx i) :: R)) : sat w (star bdA bds :: R) := by
  have hi := (List.getElem?_eq_some_iff.1 hb).1
  have := star_shut i hi h
  have he : bds[i] = bd := by rw [List.getElem?_eq_getElem hi] at hb; exact Option.some.inj hb
  subst he
  rwa [List.set_getElem_self] at this
theorem Ac_bd {n : Nat} {L : List (Nat × Value)} {A R : List Asn} {d : Option Tmp} {ty : TypeId} {pos' : String} {af : Array Edge} {g : Option (Nat × Bool)} {ts : Array TypeId} {x y : Operand} {bds : List Bd} {i k : Nat} {bd : Bd} (hx : ev L x = some (Bd.v bd)) (hy : ev L y = some (.int .i64 ((k : Nat) : Int))) (hb : bds[i]? = some bd)
    (hE : Ext A (star bdA bds) R := by repeat (first | with_reducible exact Ext.here | with_reducible apply Ext.there)) : Ac Try.prog n ⟨d, .call ⟨.value x, #[y], ts⟩, ty, pos', af, g⟩ L A (fun v A' => v = .bool (bd.ok k) ∧ A' = star bdA bds :: R) := by
  refine Ac.imp (B := star bdA bds :: R) ?_ (fun w h => sat_perm hE h)
  have hyl : evs L [y] = some [.int .i64 ((k : Nat) : Int)] := by simp [evs, hy]
  cases bd with
  | any =>
    refine Ac.mono (Ac_callv (f := 73) hx cf73 hyl rfl (caps := []) rfl rfl (hs := any_ct) (F := star bdA bds :: R) (hg := Gv.nil)) ?_
    rintro v A' ⟨r, rfl, rfl⟩
    exact ⟨_, ⟨rfl, rfl⟩, fun w h => h⟩
  | most n b =>
    refine Ac.imp (B := cl b 3 [.int .i64 ((n : Nat) : Int)] :: star bdA (bds.eraseIdx i) :: R) ?_ (fun w h => star_open (F := bdA) i hb h)
    refine Ac.mono (Ac_callv (f := 85) hx cf85 hyl rfl (caps := [.pointer (some ⟨b, 0, none⟩)]) rfl rfl (hs := mostf_ct (k := k) (n := n) (b := b)) (F := star bdA (bds.eraseIdx i) :: R) (hg := Gv.cons Ext.here Gv.nil)) ?_
    rintro v A' ⟨r, rfl, rfl⟩
    exact ⟨_, ⟨rfl, rfl⟩, fun w h => sat_bd hb h⟩
  | just n b =>
    refine Ac.imp (B := cl b 3 [.int .i64 ((n : Nat) : Int)] :: star bdA (bds.eraseIdx i) :: R) ?_ (fun w h => star_open (F := bdA) i hb h)
    refine Ac.mono (Ac_callv (f := 86) hx cf86 hyl rfl (caps := [.pointer (some ⟨b, 0, none⟩)]) rfl rfl (hs := justf_ct (k := k) (n := n) (b := b)) (F := star bdA (bds.eraseIdx i) :: R) (hg := Gv.cons Ext.here Gv.nil)) ?_
    rintro v A' ⟨r, rfl, rfl⟩
    exact ⟨_, ⟨rfl, rfl⟩, fun w h => sat_bd hb h⟩

theorem bounds_ct {t : B8}  : Ct Try.prog 42 [.int .u8 ((t.toNat : Nat) : Int)] [] (fun g : Nat × List Bd => sl (some g.1) (bnd t).length (bnd t).length) (fun g => [arr (some g.1) (bnd t).length 1 86 fBd g.2, star bdA g.2, pureA (g.2.map Bd.kd = bnd t)]) := by
  refine Ct_body (n := 35) Try.func42 rfl rfl rfl fun F w0 Q hret hnorm hp => ?_
  change WC _ _ _ _ _ _ _ (F)
  refine WC_sr fun K1 hK1 => ?_
  refine WL_rd (Rd_assign (v := sl none 0 0) rfl) rfl rfl rfl ?_
  refine WL_end hK1 ?_
  refine WC_sr fun K2 hK2 => ?_
  refine WL_rd (Rd_assign rfl) rfl rfl rfl ?_
  refine WL_end hK2 ?_
  refine WC_seq fun K3 hK3 => ?_
  refine WC_sr fun K4 hK4 => ?_
  refine WL_rd (Rd_move rfl) rfl rfl rfl ?_
  refine WL_end hK4 ?_
  refine WC_block ?_
  refine WC_sr fun K5 hK5 => ?_
  refine WL_rd (Rd_eqlU (b := 1#8) rfl rfl) rfl rfl rfl ?_
  refine WL_rd (Rd_assign rfl) rfl rfl rfl ?_
  refine WL_end hK5 ?_
  refine WC_cond rfl (fun hc0 => ?_) (fun hc0 => ?_)
  · try simp only [decide_eq_true_eq, decide_eq_false_iff_not, Bool.not_eq_true', Bool.not_eq_false', Bool.not_eq_true, Bool.not_eq_false, Int.not_lt, Int.not_le, Nat.not_lt, Nat.not_le, Decidable.not_not, ne_eq] at hc0
    refine WC_sr fun K6 hK6 => ?_
    refine WL_ac (Ac_call cf74 rfl (hs := most_ct (n := 64))) rfl rfl rfl ?_
    rintro _ _ ⟨b7, rfl, hA⟩
    simp only [List.cons_append, List.nil_append] at hA
    replace hA := hA.symm
    subst hA
    refine WL_ac (Ac_call cf75 rfl (hs := just_ct (n := 6))) rfl rfl rfl ?_
    rintro _ _ ⟨b8, rfl, hA⟩
    simp only [List.cons_append, List.nil_append] at hA
    replace hA := hA.symm
    subst hA
    refine WL_ac (Ac_call cf74 rfl (hs := most_ct (n := 16777216))) rfl rfl rfl ?_
    rintro _ _ ⟨b9, rfl, hA⟩
    simp only [List.cons_append, List.nil_append] at hA
    replace hA := hA.symm
    subst hA
    refine WL_ac (Ac_bsL (f := fBd) (zs := [.nilFunc]) (bs := [.nilFunc, .nilFunc, .nilFunc]) [.most 64 b7, .just 6 b8, .most 16777216 b9] encBd ud83 zr86 sz86 rfl (by rw [Array.toList_map, Array.toList_range]; rfl) (by rfl) (by rfl) (by rfl) (by rfl)) rfl rfl rfl ?_
    rintro _ _ ⟨g10, rfl, rfl⟩
    refine WL_star0 bdA ?_
    refine WL_snoc bdA [] (.most 64 b7) ?_
    refine WL_snoc bdA ([] ++ [.most 64 b7]) (.just 6 b8) ?_
    refine WL_snoc bdA (([] ++ [.most 64 b7]) ++ [.just 6 b8]) (.most 16777216 b9) ?_
    simp only [List.nil_append, List.cons_append]
    refine WL_rd (Rd_assign rfl) rfl rfl rfl ?_
    refine WL_end hK6 ?_
    refine WC_ret ?_
    first | (have hbd : bnd t = [Bd.most 64 0, Bd.just 6 0, Bd.most 16777216 0] := (by unfold bnd; (repeat (first | rw [if_pos (by assumption)] | rw [if_neg (by assumption)]))); rw [hbd] at hret; simp only [List.length_cons, List.length_nil, Nat.zero_add, Nat.reduceAdd] at hret; exact Ps_pure (p := ([.most 64 b7, .just 6 b8, .most 16777216 b9] : List Bd).map Bd.kd = [.most 64 0, .just 6 0, .most 16777216 0]) rfl (hret.go (g10, [.most 64 b7, .just 6 b8, .most 16777216 b9]) (Rs1 rfl rfl))) | (have hbd : bnd t = [Bd.just 16 0] := (by unfold bnd; (repeat (first | rw [if_pos (by assumption)] | rw [if_neg (by assumption)]))); rw [hbd] at hret; simp only [List.length_cons, List.length_nil, Nat.zero_add, Nat.reduceAdd] at hret; exact Ps_pure (p := ([.just 16 b13] : List Bd).map Bd.kd = [.just 16 0]) rfl (hret.go (g14, [.just 16 b13]) (Rs1 rfl rfl))) | (have hbd : bnd t = [Bd.just 32 0] := (by unfold bnd; (repeat (first | rw [if_pos (by assumption)] | rw [if_neg (by assumption)]))); rw [hbd] at hret; simp only [List.length_cons, List.length_nil, Nat.zero_add, Nat.reduceAdd] at hret; exact Ps_pure (p := ([.just 32 b17] : List Bd).map Bd.kd = [.just 32 0]) rfl (hret.go (g18, [.just 32 b17]) (Rs1 rfl rfl))) | (have hbd : bnd t = [Bd.just 32 0, Bd.just 32 0] := (by unfold bnd; (repeat (first | rw [if_pos (by assumption)] | rw [if_neg (by assumption)]))); rw [hbd] at hret; simp only [List.length_cons, List.length_nil, Nat.zero_add, Nat.reduceAdd] at hret; exact Ps_pure (p := ([.just 32 b21, .just 32 b22] : List Bd).map Bd.kd = [.just 32 0, .just 32 0]) rfl (hret.go (g23, [.just 32 b21, .just 32 b22]) (Rs1 rfl rfl))) | (have hbd : bnd t = [Bd.just 4 0] := (by unfold bnd; (repeat (first | rw [if_pos (by assumption)] | rw [if_neg (by assumption)]))); rw [hbd] at hret; simp only [List.length_cons, List.length_nil, Nat.zero_add, Nat.reduceAdd] at hret; exact Ps_pure (p := ([.just 4 b26] : List Bd).map Bd.kd = [.just 4 0]) rfl (hret.go (g27, [.just 4 b26]) (Rs1 rfl rfl))) | (have hbd : bnd t = [Bd.just 16 0, Bd.just 4 0] := (by unfold bnd; (repeat (first | rw [if_pos (by assumption)] | rw [if_neg (by assumption)]))); rw [hbd] at hret; simp only [List.length_cons, List.length_nil, Nat.zero_add, Nat.reduceAdd] at hret; exact Ps_pure (p := ([.just 16 b30, .just 4 b31] : List Bd).map Bd.kd = [.just 16 0, .just 4 0]) rfl (hret.go (g32, [.just 16 b30, .just 4 b31]) (Rs1 rfl rfl))) | (have hbd : bnd t = [Bd.any] := (by unfold bnd; (repeat (first | rw [if_pos (by assumption)] | rw [if_neg (by assumption)]))); rw [hbd] at hret; simp only [List.length_cons, List.length_nil, Nat.zero_add, Nat.reduceAdd] at hret; exact Ps_pure (p := ([.any] : List Bd).map Bd.kd = [.any]) rfl (hret.go (g34, [.any]) (Rs1 rfl rfl)))
  · try simp only [decide_eq_true_eq, decide_eq_false_iff_not, Bool.not_eq_true', Bool.not_eq_false', Bool.not_eq_true, Bool.not_eq_false, Int.not_lt, Int.not_le, Nat.not_lt, Nat.not_le, Decidable.not_not, ne_eq] at hc0
    refine WC_sr fun K7 hK7 => ?_
    refine WL_rd (Rd_eqlU (b := 2#8) rfl rfl) rfl rfl rfl ?_
    refine WL_rd (Rd_assign rfl) rfl rfl rfl ?_
    refine WL_end hK7 ?_
    refine WC_cond rfl (fun hc1 => ?_) (fun hc1 => ?_)
    · try simp only [decide_eq_true_eq, decide_eq_false_iff_not, Bool.not_eq_true', Bool.not_eq_false', Bool.not_eq_true, Bool.not_eq_false, Int.not_lt, Int.not_le, Nat.not_lt, Nat.not_le, Decidable.not_not, ne_eq] at hc1
      refine WC_sr fun K8 hK8 => ?_
      refine WL_ac (Ac_call cf75 rfl (hs := just_ct (n := 16))) rfl rfl rfl ?_
      rintro _ _ ⟨b13, rfl, hA⟩
      simp only [List.cons_append, List.nil_append] at hA
      replace hA := hA.symm
      subst hA
      refine WL_ac (Ac_bsL (f := fBd) (zs := [.nilFunc]) (bs := [.nilFunc]) [.just 16 b13] encBd ud83 zr86 sz86 rfl (by rw [Array.toList_map, Array.toList_range]; rfl) (by rfl) (by rfl) (by rfl) (by rfl)) rfl rfl rfl ?_
      rintro _ _ ⟨g14, rfl, rfl⟩
      refine WL_star0 bdA ?_
      refine WL_snoc bdA [] (.just 16 b13) ?_
      simp only [List.nil_append, List.cons_append]
      refine WL_rd (Rd_assign rfl) rfl rfl rfl ?_
      refine WL_end hK8 ?_
      refine WC_ret ?_
      first | (have hbd : bnd t = [Bd.most 64 0, Bd.just 6 0, Bd.most 16777216 0] := (by unfold bnd; (repeat (first | rw [if_pos (by assumption)] | rw [if_neg (by assumption)]))); rw [hbd] at hret; simp only [List.length_cons, List.length_nil, Nat.zero_add, Nat.reduceAdd] at hret; exact Ps_pure (p := ([.most 64 b7, .just 6 b8, .most 16777216 b9] : List Bd).map Bd.kd = [.most 64 0, .just 6 0, .most 16777216 0]) rfl (hret.go (g10, [.most 64 b7, .just 6 b8, .most 16777216 b9]) (Rs1 rfl rfl))) | (have hbd : bnd t = [Bd.just 16 0] := (by unfold bnd; (repeat (first | rw [if_pos (by assumption)] | rw [if_neg (by assumption)]))); rw [hbd] at hret; simp only [List.length_cons, List.length_nil, Nat.zero_add, Nat.reduceAdd] at hret; exact Ps_pure (p := ([.just 16 b13] : List Bd).map Bd.kd = [.just 16 0]) rfl (hret.go (g14, [.just 16 b13]) (Rs1 rfl rfl))) | (have hbd : bnd t = [Bd.just 32 0] := (by unfold bnd; (repeat (first | rw [if_pos (by assumption)] | rw [if_neg (by assumption)]))); rw [hbd] at hret; simp only [List.length_cons, List.length_nil, Nat.zero_add, Nat.reduceAdd] at hret; exact Ps_pure (p := ([.just 32 b17] : List Bd).map Bd.kd = [.just 32 0]) rfl (hret.go (g18, [.just 32 b17]) (Rs1 rfl rfl))) | (have hbd : bnd t = [Bd.just 32 0, Bd.just 32 0] := (by unfold bnd; (repeat (first | rw [if_pos (by assumption)] | rw [if_neg (by assumption)]))); rw [hbd] at hret; simp only [List.length_cons, List.length_nil, Nat.zero_add, Nat.reduceAdd] at hret; exact Ps_pure (p := ([.just 32 b21, .just 32 b22] : List Bd).map Bd.kd = [.just 32 0, .just 32 0]) rfl (hret.go (g23, [.just 32 b21, .just 32 b22]) (Rs1 rfl rfl))) | (have hbd : bnd t = [Bd.just 4 0] := (by unfold bnd; (repeat (first | rw [if_pos (by assumption)] | rw [if_neg (by assumption)]))); rw [hbd] at hret; simp only [List.length_cons, List.length_nil, Nat.zero_add, Nat.reduceAdd] at hret; exact Ps_pure (p := ([.just 4 b26] : List Bd).map Bd.kd = [.just 4 0]) rfl (hret.go (g27, [.just 4 b26]) (Rs1 rfl rfl))) | (have hbd : bnd t = [Bd.just 16 0, Bd.just 4 0] := (by unfold bnd; (repeat (first | rw [if_pos (by assumption)] | rw [if_neg (by assumption)]))); rw [hbd] at hret; simp only [List.length_cons, List.length_nil, Nat.zero_add, Nat.reduceAdd] at hret; exact Ps_pure (p := ([.just 16 b30, .just 4 b31] : List Bd).map Bd.kd = [.just 16 0, .just 4 0]) rfl (hret.go (g32, [.just 16 b30, .just 4 b31]) (Rs1 rfl rfl))) | (have hbd : bnd t = [Bd.any] := (by unfold bnd; (repeat (first | rw [if_pos (by assumption)] | rw [if_neg (by assumption)]))); rw [hbd] at hret; simp only [List.length_cons, List.length_nil, Nat.zero_add, Nat.reduceAdd] at hret; exact Ps_pure (p := ([.any] : List Bd).map Bd.kd = [.any]) rfl (hret.go (g34, [.any]) (Rs1 rfl rfl)))
    · try simp only [decide_eq_true_eq, decide_eq_false_iff_not, Bool.not_eq_true', Bool.not_eq_false', Bool.not_eq_true, Bool.not_eq_false, Int.not_lt, Int.not_le, Nat.not_lt, Nat.not_le, Decidable.not_not, ne_eq] at hc1
      refine WC_sr fun K9 hK9 => ?_
      refine WL_rd (Rd_eqlU (b := 5#8) rfl rfl) rfl rfl rfl ?_
      refine WL_rd (Rd_assign rfl) rfl rfl rfl ?_
      refine WL_end hK9 ?_
      refine WC_cond rfl (fun hc2 => ?_) (fun hc2 => ?_)
      · try simp only [decide_eq_true_eq, decide_eq_false_iff_not, Bool.not_eq_true', Bool.not_eq_false', Bool.not_eq_true, Bool.not_eq_false, Int.not_lt, Int.not_le, Nat.not_lt, Nat.not_le, Decidable.not_not, ne_eq] at hc2
        refine WC_sr fun K10 hK10 => ?_
        refine WL_ac (Ac_call cf75 rfl (hs := just_ct (n := 32))) rfl rfl rfl ?_
        rintro _ _ ⟨b17, rfl, hA⟩
        simp only [List.cons_append, List.nil_append] at hA
        replace hA := hA.symm
        subst hA
        refine WL_ac (Ac_bsL (f := fBd) (zs := [.nilFunc]) (bs := [.nilFunc]) [.just 32 b17] encBd ud83 zr86 sz86 rfl (by rw [Array.toList_map, Array.toList_range]; rfl) (by rfl) (by rfl) (by rfl) (by rfl)) rfl rfl rfl ?_
        rintro _ _ ⟨g18, rfl, rfl⟩
        refine WL_star0 bdA ?_
        refine WL_snoc bdA [] (.just 32 b17) ?_
        simp only [List.nil_append, List.cons_append]
        refine WL_rd (Rd_assign rfl) rfl rfl rfl ?_
        refine WL_end hK10 ?_
        refine WC_ret ?_
        first | (have hbd : bnd t = [Bd.most 64 0, Bd.just 6 0, Bd.most 16777216 0] := (by unfold bnd; (repeat (first | rw [if_pos (by assumption)] | rw [if_neg (by assumption)]))); rw [hbd] at hret; simp only [List.length_cons, List.length_nil, Nat.zero_add, Nat.reduceAdd] at hret; exact Ps_pure (p := ([.most 64 b7, .just 6 b8, .most 16777216 b9] : List Bd).map Bd.kd = [.most 64 0, .just 6 0, .most 16777216 0]) rfl (hret.go (g10, [.most 64 b7, .just 6 b8, .most 16777216 b9]) (Rs1 rfl rfl))) | (have hbd : bnd t = [Bd.just 16 0] := (by unfold bnd; (repeat (first | rw [if_pos (by assumption)] | rw [if_neg (by assumption)]))); rw [hbd] at hret; simp only [List.length_cons, List.length_nil, Nat.zero_add, Nat.reduceAdd] at hret; exact Ps_pure (p := ([.just 16 b13] : List Bd).map Bd.kd = [.just 16 0]) rfl (hret.go (g14, [.just 16 b13]) (Rs1 rfl rfl))) | (have hbd : bnd t = [Bd.just 32 0] := (by unfold bnd; (repeat (first | rw [if_pos (by assumption)] | rw [if_neg (by assumption)]))); rw [hbd] at hret; simp only [List.length_cons, List.length_nil, Nat.zero_add, Nat.reduceAdd] at hret; exact Ps_pure (p := ([.just 32 b17] : List Bd).map Bd.kd = [.just 32 0]) rfl (hret.go (g18, [.just 32 b17]) (Rs1 rfl rfl))) | (have hbd : bnd t = [Bd.just 32 0, Bd.just 32 0] := (by unfold bnd; (repeat (first | rw [if_pos (by assumption)] | rw [if_neg (by assumption)]))); rw [hbd] at hret; simp only [List.length_cons, List.length_nil, Nat.zero_add, Nat.reduceAdd] at hret; exact Ps_pure (p := ([.just 32 b21, .just 32 b22] : List Bd).map Bd.kd = [.just 32 0, .just 32 0]) rfl (hret.go (g23, [.just 32 b21, .just 32 b22]) (Rs1 rfl rfl))) | (have hbd : bnd t = [Bd.just 4 0] := (by unfold bnd; (repeat (first | rw [if_pos (by assumption)] | rw [if_neg (by assumption)]))); rw [hbd] at hret; simp only [List.length_cons, List.length_nil, Nat.zero_add, Nat.reduceAdd] at hret; exact Ps_pure (p := ([.just 4 b26] : List Bd).map Bd.kd = [.just 4 0]) rfl (hret.go (g27, [.just 4 b26]) (Rs1 rfl rfl))) | (have hbd : bnd t = [Bd.just 16 0, Bd.just 4 0] := (by unfold bnd; (repeat (first | rw [if_pos (by assumption)] | rw [if_neg (by assumption)]))); rw [hbd] at hret; simp only [List.length_cons, List.length_nil, Nat.zero_add, Nat.reduceAdd] at hret; exact Ps_pure (p := ([.just 16 b30, .just 4 b31] : List Bd).map Bd.kd = [.just 16 0, .just 4 0]) rfl (hret.go (g32, [.just 16 b30, .just 4 b31]) (Rs1 rfl rfl))) | (have hbd : bnd t = [Bd.any] := (by unfold bnd; (repeat (first | rw [if_pos (by assumption)] | rw [if_neg (by assumption)]))); rw [hbd] at hret; simp only [List.length_cons, List.length_nil, Nat.zero_add, Nat.reduceAdd] at hret; exact Ps_pure (p := ([.any] : List Bd).map Bd.kd = [.any]) rfl (hret.go (g34, [.any]) (Rs1 rfl rfl)))
      · try simp only [decide_eq_true_eq, decide_eq_false_iff_not, Bool.not_eq_true', Bool.not_eq_false', Bool.not_eq_true, Bool.not_eq_false, Int.not_lt, Int.not_le, Nat.not_lt, Nat.not_le, Decidable.not_not, ne_eq] at hc2
        refine WC_sr fun K11 hK11 => ?_
        refine WL_rd (Rd_eqlU (b := 6#8) rfl rfl) rfl rfl rfl ?_
        refine WL_rd (Rd_assign rfl) rfl rfl rfl ?_
        refine WL_end hK11 ?_
        refine WC_cond rfl (fun hc3 => ?_) (fun hc3 => ?_)
        · try simp only [decide_eq_true_eq, decide_eq_false_iff_not, Bool.not_eq_true', Bool.not_eq_false', Bool.not_eq_true, Bool.not_eq_false, Int.not_lt, Int.not_le, Nat.not_lt, Nat.not_le, Decidable.not_not, ne_eq] at hc3
          refine WC_sr fun K12 hK12 => ?_
          refine WL_ac (Ac_call cf75 rfl (hs := just_ct (n := 32))) rfl rfl rfl ?_
          rintro _ _ ⟨b21, rfl, hA⟩
          simp only [List.cons_append, List.nil_append] at hA
          replace hA := hA.symm
          subst hA
          refine WL_ac (Ac_call cf75 rfl (hs := just_ct (n := 32))) rfl rfl rfl ?_
          rintro _ _ ⟨b22, rfl, hA⟩
          simp only [List.cons_append, List.nil_append] at hA
          replace hA := hA.symm
          subst hA
          refine WL_ac (Ac_bsL (f := fBd) (zs := [.nilFunc]) (bs := [.nilFunc, .nilFunc]) [.just 32 b21, .just 32 b22] encBd ud83 zr86 sz86 rfl (by rw [Array.toList_map, Array.toList_range]; rfl) (by rfl) (by rfl) (by rfl) (by rfl)) rfl rfl rfl ?_
          rintro _ _ ⟨g23, rfl, rfl⟩
          refine WL_star0 bdA ?_
          refine WL_snoc bdA [] (.just 32 b21) ?_
          refine WL_snoc bdA ([] ++ [.just 32 b21]) (.just 32 b22) ?_
          simp only [List.nil_append, List.cons_append]
          refine WL_rd (Rd_assign rfl) rfl rfl rfl ?_
          refine WL_end hK12 ?_
          refine WC_ret ?_
          first | (have hbd : bnd t = [Bd.most 64 0, Bd.just 6 0, Bd.most 16777216 0] := (by unfold bnd; (repeat (first | rw [if_pos (by assumption)] | rw [if_neg (by assumption)]))); rw [hbd] at hret; simp only [List.length_cons, List.length_nil, Nat.zero_add, Nat.reduceAdd] at hret; exact Ps_pure (p := ([.most 64 b7, .just 6 b8, .most 16777216 b9] : List Bd).map Bd.kd = [.most 64 0, .just 6 0, .most 16777216 0]) rfl (hret.go (g10, [.most 64 b7, .just 6 b8, .most 16777216 b9]) (Rs1 rfl rfl))) | (have hbd : bnd t = [Bd.just 16 0] := (by unfold bnd; (repeat (first | rw [if_pos (by assumption)] | rw [if_neg (by assumption)]))); rw [hbd] at hret; simp only [List.length_cons, List.length_nil, Nat.zero_add, Nat.reduceAdd] at hret; exact Ps_pure (p := ([.just 16 b13] : List Bd).map Bd.kd = [.just 16 0]) rfl (hret.go (g14, [.just 16 b13]) (Rs1 rfl rfl))) | (have hbd : bnd t = [Bd.just 32 0] := (by unfold bnd; (repeat (first | rw [if_pos (by assumption)] | rw [if_neg (by assumption)]))); rw [hbd] at hret; simp only [List.length_cons, List.length_nil, Nat.zero_add, Nat.reduceAdd] at hret; exact Ps_pure (p := ([.just 32 b17] : List Bd).map Bd.kd = [.just 32 0]) rfl (hret.go (g18, [.just 32 b17]) (Rs1 rfl rfl))) | (have hbd : bnd t = [Bd.just 32 0, Bd.just 32 0] := (by unfold bnd; (repeat (first | rw [if_pos (by assumption)] | rw [if_neg (by assumption)]))); rw [hbd] at hret; simp only [List.length_cons, List.length_nil, Nat.zero_add, Nat.reduceAdd] at hret; exact Ps_pure (p := ([.just 32 b21, .just 32 b22] : List Bd).map Bd.kd = [.just 32 0, .just 32 0]) rfl (hret.go (g23, [.just 32 b21, .just 32 b22]) (Rs1 rfl rfl))) | (have hbd : bnd t = [Bd.just 4 0] := (by unfold bnd; (repeat (first | rw [if_pos (by assumption)] | rw [if_neg (by assumption)]))); rw [hbd] at hret; simp only [List.length_cons, List.length_nil, Nat.zero_add, Nat.reduceAdd] at hret; exact Ps_pure (p := ([.just 4 b26] : List Bd).map Bd.kd = [.just 4 0]) rfl (hret.go (g27, [.just 4 b26]) (Rs1 rfl rfl))) | (have hbd : bnd t = [Bd.just 16 0, Bd.just 4 0] := (by unfold bnd; (repeat (first | rw [if_pos (by assumption)] | rw [if_neg (by assumption)]))); rw [hbd] at hret; simp only [List.length_cons, List.length_nil, Nat.zero_add, Nat.reduceAdd] at hret; exact Ps_pure (p := ([.just 16 b30, .just 4 b31] : List Bd).map Bd.kd = [.just 16 0, .just 4 0]) rfl (hret.go (g32, [.just 16 b30, .just 4 b31]) (Rs1 rfl rfl))) | (have hbd : bnd t = [Bd.any] := (by unfold bnd; (repeat (first | rw [if_pos (by assumption)] | rw [if_neg (by assumption)]))); rw [hbd] at hret; simp only [List.length_cons, List.length_nil, Nat.zero_add, Nat.reduceAdd] at hret; exact Ps_pure (p := ([.any] : List Bd).map Bd.kd = [.any]) rfl (hret.go (g34, [.any]) (Rs1 rfl rfl)))
        · try simp only [decide_eq_true_eq, decide_eq_false_iff_not, Bool.not_eq_true', Bool.not_eq_false', Bool.not_eq_true, Bool.not_eq_false, Int.not_lt, Int.not_le, Nat.not_lt, Nat.not_le, Decidable.not_not, ne_eq] at hc3
          refine WC_sr fun K13 hK13 => ?_
          refine WL_rd (Rd_eqlU (b := 7#8) rfl rfl) rfl rfl rfl ?_
          refine WL_rd (Rd_assign rfl) rfl rfl rfl ?_
          refine WL_end hK13 ?_
          refine WC_cond rfl (fun hc4 => ?_) (fun hc4 => ?_)
          · try simp only [decide_eq_true_eq, decide_eq_false_iff_not, Bool.not_eq_true', Bool.not_eq_false', Bool.not_eq_true, Bool.not_eq_false, Int.not_lt, Int.not_le, Nat.not_lt, Nat.not_le, Decidable.not_not, ne_eq] at hc4
            refine WC_sr fun K14 hK14 => ?_
            refine WL_ac (Ac_call cf75 rfl (hs := just_ct (n := 4))) rfl rfl rfl ?_
            rintro _ _ ⟨b26, rfl, hA⟩
            simp only [List.cons_append, List.nil_append] at hA
            replace hA := hA.symm
            subst hA
            refine WL_ac (Ac_bsL (f := fBd) (zs := [.nilFunc]) (bs := [.nilFunc]) [.just 4 b26] encBd ud83 zr86 sz86 rfl (by rw [Array.toList_map, Array.toList_range]; rfl) (by rfl) (by rfl) (by rfl) (by rfl)) rfl rfl rfl ?_
            rintro _ _ ⟨g27, rfl, rfl⟩
            refine WL_star0 bdA ?_
            refine WL_snoc bdA [] (.just 4 b26) ?_
            simp only [List.nil_append, List.cons_append]
            refine WL_rd (Rd_assign rfl) rfl rfl rfl ?_
            refine WL_end hK14 ?_
            refine WC_ret ?_
            first | (have hbd : bnd t = [Bd.most 64 0, Bd.just 6 0, Bd.most 16777216 0] := (by unfold bnd; (repeat (first | rw [if_pos (by assumption)] | rw [if_neg (by assumption)]))); rw [hbd] at hret; simp only [List.length_cons, List.length_nil, Nat.zero_add, Nat.reduceAdd] at hret; exact Ps_pure (p := ([.most 64 b7, .just 6 b8, .most 16777216 b9] : List Bd).map Bd.kd = [.most 64 0, .just 6 0, .most 16777216 0]) rfl (hret.go (g10, [.most 64 b7, .just 6 b8, .most 16777216 b9]) (Rs1 rfl rfl))) | (have hbd : bnd t = [Bd.just 16 0] := (by unfold bnd; (repeat (first | rw [if_pos (by assumption)] | rw [if_neg (by assumption)]))); rw [hbd] at hret; simp only [List.length_cons, List.length_nil, Nat.zero_add, Nat.reduceAdd] at hret; exact Ps_pure (p := ([.just 16 b13] : List Bd).map Bd.kd = [.just 16 0]) rfl (hret.go (g14, [.just 16 b13]) (Rs1 rfl rfl))) | (have hbd : bnd t = [Bd.just 32 0] := (by unfold bnd; (repeat (first | rw [if_pos (by assumption)] | rw [if_neg (by assumption)]))); rw [hbd] at hret; simp only [List.length_cons, List.length_nil, Nat.zero_add, Nat.reduceAdd] at hret; exact Ps_pure (p := ([.just 32 b17] : List Bd).map Bd.kd = [.just 32 0]) rfl (hret.go (g18, [.just 32 b17]) (Rs1 rfl rfl))) | (have hbd : bnd t = [Bd.just 32 0, Bd.just 32 0] := (by unfold bnd; (repeat (first | rw [if_pos (by assumption)] | rw [if_neg (by assumption)]))); rw [hbd] at hret; simp only [List.length_cons, List.length_nil, Nat.zero_add, Nat.reduceAdd] at hret; exact Ps_pure (p := ([.just 32 b21, .just 32 b22] : List Bd).map Bd.kd = [.just 32 0, .just 32 0]) rfl (hret.go (g23, [.just 32 b21, .just 32 b22]) (Rs1 rfl rfl))) | (have hbd : bnd t = [Bd.just 4 0] := (by unfold bnd; (repeat (first | rw [if_pos (by assumption)] | rw [if_neg (by assumption)]))); rw [hbd] at hret; simp only [List.length_cons, List.length_nil, Nat.zero_add, Nat.reduceAdd] at hret; exact Ps_pure (p := ([.just 4 b26] : List Bd).map Bd.kd = [.just 4 0]) rfl (hret.go (g27, [.just 4 b26]) (Rs1 rfl rfl))) | (have hbd : bnd t = [Bd.just 16 0, Bd.just 4 0] := (by unfold bnd; (repeat (first | rw [if_pos (by assumption)] | rw [if_neg (by assumption)]))); rw [hbd] at hret; simp only [List.length_cons, List.length_nil, Nat.zero_add, Nat.reduceAdd] at hret; exact Ps_pure (p := ([.just 16 b30, .just 4 b31] : List Bd).map Bd.kd = [.just 16 0, .just 4 0]) rfl (hret.go (g32, [.just 16 b30, .just 4 b31]) (Rs1 rfl rfl))) | (have hbd : bnd t = [Bd.any] := (by unfold bnd; (repeat (first | rw [if_pos (by assumption)] | rw [if_neg (by assumption)]))); rw [hbd] at hret; simp only [List.length_cons, List.length_nil, Nat.zero_add, Nat.reduceAdd] at hret; exact Ps_pure (p := ([.any] : List Bd).map Bd.kd = [.any]) rfl (hret.go (g34, [.any]) (Rs1 rfl rfl)))
          · try simp only [decide_eq_true_eq, decide_eq_false_iff_not, Bool.not_eq_true', Bool.not_eq_false', Bool.not_eq_true, Bool.not_eq_false, Int.not_lt, Int.not_le, Nat.not_lt, Nat.not_le, Decidable.not_not, ne_eq] at hc4
            refine WC_sr fun K15 hK15 => ?_
            refine WL_rd (Rd_eqlU (b := 9#8) rfl rfl) rfl rfl rfl ?_
            refine WL_rd (Rd_assign rfl) rfl rfl rfl ?_
            refine WL_end hK15 ?_
            refine WC_cond rfl (fun hc5 => ?_) (fun hc5 => ?_)
            · try simp only [decide_eq_true_eq, decide_eq_false_iff_not, Bool.not_eq_true', Bool.not_eq_false', Bool.not_eq_true, Bool.not_eq_false, Int.not_lt, Int.not_le, Nat.not_lt, Nat.not_le, Decidable.not_not, ne_eq] at hc5
              refine WC_sr fun K16 hK16 => ?_
              refine WL_ac (Ac_call cf75 rfl (hs := just_ct (n := 16))) rfl rfl rfl ?_
              rintro _ _ ⟨b30, rfl, hA⟩
              simp only [List.cons_append, List.nil_append] at hA
              replace hA := hA.symm
              subst hA
              refine WL_ac (Ac_call cf75 rfl (hs := just_ct (n := 4))) rfl rfl rfl ?_
              rintro _ _ ⟨b31, rfl, hA⟩
              simp only [List.cons_append, List.nil_append] at hA
              replace hA := hA.symm
              subst hA
              refine WL_ac (Ac_bsL (f := fBd) (zs := [.nilFunc]) (bs := [.nilFunc, .nilFunc]) [.just 16 b30, .just 4 b31] encBd ud83 zr86 sz86 rfl (by rw [Array.toList_map, Array.toList_range]; rfl) (by rfl) (by rfl) (by rfl) (by rfl)) rfl rfl rfl ?_
              rintro _ _ ⟨g32, rfl, rfl⟩
              refine WL_star0 bdA ?_
              refine WL_snoc bdA [] (.just 16 b30) ?_
              refine WL_snoc bdA ([] ++ [.just 16 b30]) (.just 4 b31) ?_
              simp only [List.nil_append, List.cons_append]
              refine WL_rd (Rd_assign rfl) rfl rfl rfl ?_
              refine WL_end hK16 ?_
              refine WC_ret ?_
              first | (have hbd : bnd t = [Bd.most 64 0, Bd.just 6 0, Bd.most 16777216 0] := (by unfold bnd; (repeat (first | rw [if_pos (by assumption)] | rw [if_neg (by assumption)]))); rw [hbd] at hret; simp only [List.length_cons, List.length_nil, Nat.zero_add, Nat.reduceAdd] at hret; exact Ps_pure (p := ([.most 64 b7, .just 6 b8, .most 16777216 b9] : List Bd).map Bd.kd = [.most 64 0, .just 6 0, .most 16777216 0]) rfl (hret.go (g10, [.most 64 b7, .just 6 b8, .most 16777216 b9]) (Rs1 rfl rfl))) | (have hbd : bnd t = [Bd.just 16 0] := (by unfold bnd; (repeat (first | rw [if_pos (by assumption)] | rw [if_neg (by assumption)]))); rw [hbd] at hret; simp only [List.length_cons, List.length_nil, Nat.zero_add, Nat.reduceAdd] at hret; exact Ps_pure (p := ([.just 16 b13] : List Bd).map Bd.kd = [.just 16 0]) rfl (hret.go (g14, [.just 16 b13]) (Rs1 rfl rfl))) | (have hbd : bnd t = [Bd.just 32 0] := (by unfold bnd; (repeat (first | rw [if_pos (by assumption)] | rw [if_neg (by assumption)]))); rw [hbd] at hret; simp only [List.length_cons, List.length_nil, Nat.zero_add, Nat.reduceAdd] at hret; exact Ps_pure (p := ([.just 32 b17] : List Bd).map Bd.kd = [.just 32 0]) rfl (hret.go (g18, [.just 32 b17]) (Rs1 rfl rfl))) | (have hbd : bnd t = [Bd.just 32 0, Bd.just 32 0] := (by unfold bnd; (repeat (first | rw [if_pos (by assumption)] | rw [if_neg (by assumption)]))); rw [hbd] at hret; simp only [List.length_cons, List.length_nil, Nat.zero_add, Nat.reduceAdd] at hret; exact Ps_pure (p := ([.just 32 b21, .just 32 b22] : List Bd).map Bd.kd = [.just 32 0, .just 32 0]) rfl (hret.go (g23, [.just 32 b21, .just 32 b22]) (Rs1 rfl rfl))) | (have hbd : bnd t = [Bd.just 4 0] := (by unfold bnd; (repeat (first | rw [if_pos (by assumption)] | rw [if_neg (by assumption)]))); rw [hbd] at hret; simp only [List.length_cons, List.length_nil, Nat.zero_add, Nat.reduceAdd] at hret; exact Ps_pure (p := ([.just 4 b26] : List Bd).map Bd.kd = [.just 4 0]) rfl (hret.go (g27, [.just 4 b26]) (Rs1 rfl rfl))) | (have hbd : bnd t = [Bd.just 16 0, Bd.just 4 0] := (by unfold bnd; (repeat (first | rw [if_pos (by assumption)] | rw [if_neg (by assumption)]))); rw [hbd] at hret; simp only [List.length_cons, List.length_nil, Nat.zero_add, Nat.reduceAdd] at hret; exact Ps_pure (p := ([.just 16 b30, .just 4 b31] : List Bd).map Bd.kd = [.just 16 0, .just 4 0]) rfl (hret.go (g32, [.just 16 b30, .just 4 b31]) (Rs1 rfl rfl))) | (have hbd : bnd t = [Bd.any] := (by unfold bnd; (repeat (first | rw [if_pos (by assumption)] | rw [if_neg (by assumption)]))); rw [hbd] at hret; simp only [List.length_cons, List.length_nil, Nat.zero_add, Nat.reduceAdd] at hret; exact Ps_pure (p := ([.any] : List Bd).map Bd.kd = [.any]) rfl (hret.go (g34, [.any]) (Rs1 rfl rfl)))
            · try simp only [decide_eq_true_eq, decide_eq_false_iff_not, Bool.not_eq_true', Bool.not_eq_false', Bool.not_eq_true, Bool.not_eq_false, Int.not_lt, Int.not_le, Nat.not_lt, Nat.not_le, Decidable.not_not, ne_eq] at hc5
              refine WC_skip ?_
              refine Ps_next hK3 ?_
              refine WC_sr fun K17 hK17 => ?_
              refine WL_rd (Rd_move rfl) rfl rfl rfl ?_
              refine WL_ac (Ac_bsL (f := fBd) (zs := [.nilFunc]) (bs := [.nilFunc]) [.any] encBd ud83 zr86 sz86 rfl (by rw [Array.toList_map, Array.toList_range]; rfl) (by rfl) (by rfl) (by rfl) (by rfl)) rfl rfl rfl ?_
              rintro _ _ ⟨g34, rfl, rfl⟩
              refine WL_star0 bdA ?_
              refine WL_pk0 ?_
              refine WL_snoc bdA [] (.any) ?_
              simp only [List.nil_append, List.cons_append]
              refine WL_rd (Rd_assign rfl) rfl rfl rfl ?_
              refine WL_end hK17 ?_
              refine WC_ret ?_
              first | (have hbd : bnd t = [Bd.most 64 0, Bd.just 6 0, Bd.most 16777216 0] := (by unfold bnd; (repeat (first | rw [if_pos (by assumption)] | rw [if_neg (by assumption)]))); rw [hbd] at hret; simp only [List.length_cons, List.length_nil, Nat.zero_add, Nat.reduceAdd] at hret; exact Ps_pure (p := ([.most 64 b7, .just 6 b8, .most 16777216 b9] : List Bd).map Bd.kd = [.most 64 0, .just 6 0, .most 16777216 0]) rfl (hret.go (g10, [.most 64 b7, .just 6 b8, .most 16777216 b9]) (Rs1 rfl rfl))) | (have hbd : bnd t = [Bd.just 16 0] := (by unfold bnd; (repeat (first | rw [if_pos (by assumption)] | rw [if_neg (by assumption)]))); rw [hbd] at hret; simp only [List.length_cons, List.length_nil, Nat.zero_add, Nat.reduceAdd] at hret; exact Ps_pure (p := ([.just 16 b13] : List Bd).map Bd.kd = [.just 16 0]) rfl (hret.go (g14, [.just 16 b13]) (Rs1 rfl rfl))) | (have hbd : bnd t = [Bd.just 32 0] := (by unfold bnd; (repeat (first | rw [if_pos (by assumption)] | rw [if_neg (by assumption)]))); rw [hbd] at hret; simp only [List.length_cons, List.length_nil, Nat.zero_add, Nat.reduceAdd] at hret; exact Ps_pure (p := ([.just 32 b17] : List Bd).map Bd.kd = [.just 32 0]) rfl (hret.go (g18, [.just 32 b17]) (Rs1 rfl rfl))) | (have hbd : bnd t = [Bd.just 32 0, Bd.just 32 0] := (by unfold bnd; (repeat (first | rw [if_pos (by assumption)] | rw [if_neg (by assumption)]))); rw [hbd] at hret; simp only [List.length_cons, List.length_nil, Nat.zero_add, Nat.reduceAdd] at hret; exact Ps_pure (p := ([.just 32 b21, .just 32 b22] : List Bd).map Bd.kd = [.just 32 0, .just 32 0]) rfl (hret.go (g23, [.just 32 b21, .just 32 b22]) (Rs1 rfl rfl))) | (have hbd : bnd t = [Bd.just 4 0] := (by unfold bnd; (repeat (first | rw [if_pos (by assumption)] | rw [if_neg (by assumption)]))); rw [hbd] at hret; simp only [List.length_cons, List.length_nil, Nat.zero_add, Nat.reduceAdd] at hret; exact Ps_pure (p := ([.just 4 b26] : List Bd).map Bd.kd = [.just 4 0]) rfl (hret.go (g27, [.just 4 b26]) (Rs1 rfl rfl))) | (have hbd : bnd t = [Bd.just 16 0, Bd.just 4 0] := (by unfold bnd; (repeat (first | rw [if_pos (by assumption)] | rw [if_neg (by assumption)]))); rw [hbd] at hret; simp only [List.length_cons, List.length_nil, Nat.zero_add, Nat.reduceAdd] at hret; exact Ps_pure (p := ([.just 16 b30, .just 4 b31] : List Bd).map Bd.kd = [.just 16 0, .just 4 0]) rfl (hret.go (g32, [.just 16 b30, .just 4 b31]) (Rs1 rfl rfl))) | (have hbd : bnd t = [Bd.any] := (by unfold bnd; (repeat (first | rw [if_pos (by assumption)] | rw [if_neg (by assumption)]))); rw [hbd] at hret; simp only [List.length_cons, List.length_nil, Nat.zero_add, Nat.reduceAdd] at hret; exact Ps_pure (p := ([.any] : List Bd).map Bd.kd = [.any]) rfl (hret.go (g34, [.any]) (Rs1 rfl rfl)))
end Go.Proofs.Ytlcafifjhilleaa
namespace Go.Proofs.Ytlcafifjhilleaa
open Go.RowKit Go.SL Go.ShM
set_option maxHeartbeats 1000000
set_option maxRecDepth 20000
set_option linter.all false
theorem cf42 : cfn Try.prog 42 = true := by kernel_rfl
theorem tk86 : tk Try.prog 86 = some none := by kernel_rfl
theorem lens_at {ps : List Pt} {i : Nat} {p : Pt} (h : ps[i]? = some p) : (lens (ps.map (·.l)))[i]? = some p.l.length := by simp [lens, h]
theorem lens_len (ps : List Pt) : (lens (ps.map (·.l))).length = ps.length := by simp [lens]

theorem fit_ct {t : B8} {X : Asn} {v : Value} {ps : List Pt} {ao : Option Addr} {cap : Nat} (hS : Sv [X] v 1 fP ps ao cap := by assumption) (hP : ∀ p ∈ ps, RdP [X] p := by assumption) (hk : ps.length ≤ 10000000000 := by omega) : Ct Try.prog 16 [.int .u8 ((t.toNat : Nat) : Int), v] [X] (fun _ : Unit => .bool (fitM t (lens (ps.map (·.l))))) (fun _ => [X]) := by
  refine Ct_body (n := 31) Try.func16 rfl rfl rfl fun F w0 Q hret hnorm hp => ?_
  change WC _ _ _ _ _ _ _ (_ :: F)
  have hll := lens_len ps
  refine WC_sr fun K1 hK1 => ?_
  refine WL_rd (Rd_assign rfl) rfl rfl rfl ?_
  refine WL_end hK1 ?_
  refine WC_sr fun K2 hK2 => ?_
  refine WL_rd (Rd_move rfl) rfl rfl rfl ?_
  refine WL_ac (Ac_call cf42 rfl (hs := bounds_ct)) rfl rfl rfl ?_
  rintro _ _ ⟨⟨g9, bds9⟩, rfl, hA⟩
  simp only [List.cons_append, List.nil_append] at hA
  replace hA := hA.symm
  subst hA
  refine WL_unp (bds9.map Bd.kd = bnd t) (fun hkd => ?_)
  have hbl : bds9.length = (bnd t).length := by rw [← hkd]; simp
  have hfm : fitM t (lens (ps.map (·.l))) = fitL bds9 (lens (ps.map (·.l))) := by unfold fitM; rw [← hkd, fitL_kd]
  refine WL_rd (Rd_assign rfl) rfl rfl rfl ?_
  refine WL_end hK2 ?_
  refine WC_seq fun K3 hK3 => ?_
  refine WC_sr fun K4 hK4 => ?_
  refine WL_rd (Rd_move rfl) rfl rfl rfl ?_
  refine WL_rd (Rd_len rfl rfl ud83) rfl rfl rfl ?_
  refine WL_rd (Rd_move rfl) rfl rfl rfl ?_
  refine WL_rd (Rd_len_sv rfl rfl ud22) rfl rfl rfl ?_
  refine WL_rd (Rd_neqN rfl rfl) rfl rfl rfl ?_
  refine WL_end hK4 ?_
  refine WC_cond rfl (fun hc0 => ?_) (fun hc0 => ?_)
  · try simp only [decide_eq_true_eq, decide_eq_false_iff_not, Bool.not_eq_true', Bool.not_eq_false', Bool.not_eq_true, Bool.not_eq_false, Int.not_lt, Int.not_le, Nat.not_lt, Nat.not_le, Decidable.not_not, ne_eq] at hc0
    refine WC_sr fun K5 hK5 => ?_
    refine WL_rd (Rd_assign rfl) rfl rfl rfl ?_
    refine WL_end hK5 ?_
    refine WC_ret ?_
    first | exact hret.goE () (Rs1 rfl rfl) (by rw [hfm, fitL_len (by omega)]) | exact hret.goE () (Rs1 rfl rfl) (by rw [hfm, fitL_drop hbd (lens_at hpt) hc2]) | exact hret.goE () (Rs1 rfl rfl) (by have h := hi.2; rw [← hbl, List.take_length, show bds9.length = (lens (ps.map (·.l))).length from by omega, List.take_length] at h; rw [hfm, h])
  · try simp only [decide_eq_true_eq, decide_eq_false_iff_not, Bool.not_eq_true', Bool.not_eq_false', Bool.not_eq_true, Bool.not_eq_false, Int.not_lt, Int.not_le, Nat.not_lt, Nat.not_le, Decidable.not_not, ne_eq] at hc0
    refine WC_skip ?_
    refine Ps_next hK3 ?_
    refine WC_seq fun K6 hK6 => ?_
    refine WC_sr fun K7 hK7 => ?_
    refine WL_rd (Rd_move rfl) rfl rfl rfl ?_
    refine WL_rd (Rd_len rfl rfl ud83) rfl rfl rfl ?_
    refine WL_rd (Rd_move rfl) rfl rfl rfl ?_
    refine WL_end hK7 ?_
    refine WC_block ?_
    refine WC_loopK (σ := Nat) (fun i' => [(17, .int .i64 ((i' : Nat) : Int))]) (fun i' => []) (fun i' => i' ≤ (bnd t).length ∧ fitL (bds9.take i') ((lens (ps.map (·.l))).take i') = true) (fun i' => (bnd t).length - i') (0) [1, 15, 16] (by repeat (first | exact Kep.nil | apply Kep.drop rfl | apply Kep.keep rfl)) (by (try dsimp only); repeat (first | with_reducible exact Gv.nil | (with_reducible apply Gv.cons; · (repeat (first | with_reducible exact Ext.here | with_reducible apply Ext.there))))) ?_ ?_ Sub.refl ?_
    · exact ⟨Nat.zero_le _, rfl⟩
    · (try dsimp only); exact (Wk.cons (by first | rfl | (simp only [List.length_append, List.length_cons, List.length_nil, List.length_replicate, Nat.zero_add]; rfl) | (simp; done)) Wk.nil)
    · rintro i' hi K8 hK8
      simp only [List.cons_append, List.nil_append]
      refine WC_sr fun K9 hK9 => ?_
      refine WL_rd (Rd_lssN rfl rfl) rfl rfl rfl ?_
      refine WL_end hK9 ?_
      refine WC_seq fun K10 hK10 => ?_
      refine WC_cond rfl (fun hc1 => ?_) (fun hc1 => ?_)
      · try simp only [decide_eq_true_eq, decide_eq_false_iff_not, Bool.not_eq_true', Bool.not_eq_false', Bool.not_eq_true, Bool.not_eq_false, Int.not_lt, Int.not_le, Nat.not_lt, Nat.not_le, Decidable.not_not, ne_eq] at hc1
        obtain ⟨bd, hbd⟩ : ∃ b, bds9[i']? = some b := ⟨_, List.getElem?_eq_getElem (by omega)⟩
        obtain ⟨pt, hpt⟩ : ∃ p, ps[i']? = some p := ⟨_, List.getElem?_eq_getElem (by omega)⟩
        have hptS : Sv [X] pt.v 1 (eU .u8 (w := 8)) pt.l pt.ao pt.cap := hP pt (List.mem_of_getElem? hpt)
        refine WC_skip ?_
        refine Ps_next hK10 ?_
        refine WC_seq fun K11 hK11 => ?_
        refine WC_block ?_
        refine WC_sr fun K12 hK12 => ?_
        refine WL_rd (Rd_move rfl) rfl rfl rfl ?_
        refine WL_rd (Rd_index _ rfl rfl ud83 sz86) rfl rfl rfl ?_
        refine WL_rd (Rd_load_arr (i := i') (j := 0) rfl tk86 (hl := hbd)) rfl rfl rfl ?_
        refine WL_rd (Rd_assign rfl) rfl rfl rfl ?_
        refine WL_rd (Rd_assign rfl) rfl rfl rfl ?_
        refine WL_end hK12 ?_
        refine WC_sr fun K13 hK13 => ?_
        refine WL_rd (Rd_move rfl) rfl rfl rfl ?_
        refine WL_rd (Rd_move rfl) rfl rfl rfl ?_
        refine WL_rd (Rd_move rfl) rfl rfl rfl ?_
        refine WL_rd (Rd_index_sv i' rfl rfl ud22 sz23 (hA := hS) (hi := by omega)) rfl rfl rfl ?_
        refine WL_rd (Rd_load_sv (i := i') (j := 0) rfl tk23 (hA := hS) (hl := hpt)) rfl rfl rfl ?_
        refine WL_rd (Rd_len_sv rfl rfl ud23) rfl rfl rfl ?_
        refine WL_ac (Ac_bd (k := pt.l.length) rfl rfl hbd) rfl rfl rfl ?_
        rintro _ _ ⟨rfl, rfl⟩
        refine WL_rd (Rd_not rfl) rfl rfl rfl ?_
        refine WL_end hK13 ?_
        refine WC_cond rfl (fun hc2 => ?_) (fun hc2 => ?_)
        · try simp only [decide_eq_true_eq, decide_eq_false_iff_not, Bool.not_eq_true', Bool.not_eq_false', Bool.not_eq_true, Bool.not_eq_false, Int.not_lt, Int.not_le, Nat.not_lt, Nat.not_le, Decidable.not_not, ne_eq] at hc2
          refine WC_sr fun K14 hK14 => ?_
          refine WL_rd (Rd_assign rfl) rfl rfl rfl ?_
          refine WL_end hK14 ?_
          refine WC_ret ?_
          first | exact hret.goE () (Rs1 rfl rfl) (by rw [hfm, fitL_len (by omega)]) | exact hret.goE () (Rs1 rfl rfl) (by rw [hfm, fitL_drop hbd (lens_at hpt) hc2]) | exact hret.goE () (Rs1 rfl rfl) (by have h := hi.2; rw [← hbl, List.take_length, show bds9.length = (lens (ps.map (·.l))).length from by omega, List.take_length] at h; rw [hfm, h])
        · try simp only [decide_eq_true_eq, decide_eq_false_iff_not, Bool.not_eq_true', Bool.not_eq_false', Bool.not_eq_true, Bool.not_eq_false, Int.not_lt, Int.not_le, Nat.not_lt, Nat.not_le, Decidable.not_not, ne_eq] at hc2
          refine WC_skip ?_
          refine Ps_next hK11 ?_
          refine WC_region ?_
          refine WL_rd (Rd_addN (j := 1) rfl rfl) rfl rfl rfl ?_
          refine WL_rd (Rd_move rfl) rfl rfl rfl ?_
          refine WL_nil ?_
          refine Ps_wk (by (try simp only [List.cons_append, List.nil_append]); repeat (first | with_reducible exact Wk.nil | refine Wk.cons (by first | rfl | (simp only [List.length_append, List.length_cons, List.length_nil, List.length_replicate, Nat.zero_add]; rfl) | (simp; done)) ?_)) (by (try simp only [List.cons_append, List.nil_append]); repeat (first | with_reducible exact Sub.refl | with_reducible exact Sub.nil | with_reducible refine Sub.cons (by repeat (first | with_reducible exact Ext.here | with_reducible apply Ext.there)) ?_ | with_reducible refine Sub.tail ?_)) (hK8 (i' + 1) (⟨by omega, by rw [fitL_take hbd (lens_at hpt), hi.2, hc2]; rfl⟩) (by omega))
      · try simp only [decide_eq_true_eq, decide_eq_false_iff_not, Bool.not_eq_true', Bool.not_eq_false', Bool.not_eq_true, Bool.not_eq_false, Int.not_lt, Int.not_le, Nat.not_lt, Nat.not_le, Decidable.not_not, ne_eq] at hc1
        obtain rfl : i' = (bnd t).length := by omega
        refine WC_exit ?_
        refine Ps_next hK6 ?_
        refine WC_sr fun K15 hK15 => ?_
        refine WL_rd (Rd_assign rfl) rfl rfl rfl ?_
        refine WL_end hK15 ?_
        refine WC_ret ?_
        first | exact hret.goE () (Rs1 rfl rfl) (by rw [hfm, fitL_len (by omega)]) | exact hret.goE () (Rs1 rfl rfl) (by rw [hfm, fitL_drop hbd (lens_at hpt) hc2]) | exact hret.goE () (Rs1 rfl rfl) (by have h := hi.2; rw [← hbl, List.take_length, show bds9.length = (lens (ps.map (·.l))).length from by omega, List.take_length] at h; rw [hfm, h])
end Go.Proofs.Ytlcafifjhilleaa
namespace Go.Proofs.Ytlcafifjhilleaa
open Go.RowKit Go.SL Go.ShM
set_option maxHeartbeats 1000000
set_option maxRecDepth 20000
set_option linter.all false
theorem cf44 : cfn Try.prog 44 = true := by kernel_rfl
theorem el23 : el Try.prog 23 = some (1, 24) := by kernel_rfl
theorem sz22 : sz Try.prog 22 = some 1 := by kernel_rfl
theorem tk22 : tk Try.prog 22 = some none := by kernel_rfl
theorem ud35 : Try.prog.underlying 35 = some (.slice 22) := by kernel_rfl
theorem joinP_flat (ps : List Pt) : joinP ps = (ps.map (·.l)).flatten := by simp [joinP, List.flatMap_def]
theorem frM_take {ps : List Pt} {i : Nat} {p : Pt} (h : ps[i]? = some p) : (frM ((ps.take i).map (·.l)) ++ big64 (BitVec.ofNat 64 p.l.length)) ++ p.l = frM ((ps.take (i + 1)).map (·.l)) := by
  rw [List.take_add_one, h, List.map_append, List.append_assoc, show big64 (BitVec.ofNat 64 p.l.length) ++ p.l = frm p.l from rfl, frM_snoc]; rfl
theorem frP_len {ps : List Pt} {i : Nat} (h : i ≤ ps.length) : (frM ((ps.take i).map (·.l))).length = (joinP (ps.take i)).length + 8 * i := by
  rw [frM_len, ← joinP_flat, List.length_map, List.length_take, Nat.min_eq_left h]
theorem frP_all {ps : List Pt} : (frM (ps.map (·.l))).length = (joinP ps).length + 8 * ps.length := by
  have := frP_len (ps := ps) (Nat.le_refl ps.length)
  rwa [List.take_length] at this
theorem word_eq0 (t : B8) : ((wordS t).toList == (⟨#[]⟩ : ByteArray).toList) = decide ((wordS t).size = 0) := by
  unfold wordS
  repeat' split
  all_goals decide +kernel

theorem framed_ct {X : Asn} {v : Value} {ps : List Pt} {ao : Option Addr} {cap : Nat} (hS : Sv [X] v 1 fP ps ao cap := by assumption) (hP : ∀ p ∈ ps, RdP [X] p := by assumption) (hn : (joinP ps).length ≤ 500000000000 := by omega) (hk : ps.length ≤ 10000000000 := by omega) : Ct Try.prog 17 [v] [X] (fun g : Option Nat × Nat => sl g.1 (frM (ps.map (·.l))).length g.2) (fun g => [X, arr g.1 g.2 1 5 (eU .u8) (frM (ps.map (·.l)))]) := by
  refine Ct_body (n := 23) Try.func17 rfl rfl rfl fun F w0 Q hret hnorm hp => ?_
  change WC _ _ _ _ _ _ _ (_ :: F)
  refine WC_sr fun K1 hK1 => ?_
  refine WL_rd (Rd_assign (v := sl none 0 0) rfl) rfl rfl rfl ?_
  refine WL_end hK1 ?_
  refine WC_sr fun K2 hK2 => ?_
  refine WL_rd (Rd_assign (v := sl none 0 0) rfl) rfl rfl rfl ?_
  refine WL_nilarr (eU .u8 (w := 8)) 1 5 ?_
  refine WL_end hK2 ?_
  refine WC_seq fun K3 hK3 => ?_
  refine WC_sr fun K4 hK4 => ?_
  refine WL_rd (Rd_move rfl) rfl rfl rfl ?_
  refine WL_rd (Rd_len_sv rfl rfl ud22) rfl rfl rfl ?_
  refine WL_rd (Rd_move rfl) rfl rfl rfl ?_
  refine WL_end hK4 ?_
  refine WC_block ?_
  rw [show ([] : List B8) = frM ((ps.take 0).map (·.l)) from rfl]
  refine WC_loopK (σ := Nat × (Option Nat) × Nat) (fun ⟨i', a, c⟩ => [(3, sl a (frM ((ps.take i').map (·.l))).length c), (8, .int .i64 ((i' : Nat) : Int))]) (fun ⟨i', a, c⟩ => [arr a c 1 5 (eU .u8) (frM ((ps.take i').map (·.l)))]) (fun ⟨i', a, c⟩ => i' ≤ ps.length) (fun ⟨i', a, c⟩ => ps.length - i') ⟨0, none, 0⟩ [2, 6, 7, 22] (by repeat (first | exact Kep.nil | apply Kep.drop rfl | apply Kep.keep rfl)) (by (try dsimp only); repeat (first | with_reducible exact Gv.nil | (with_reducible apply Gv.cons; · (repeat (first | with_reducible exact Ext.here | with_reducible apply Ext.there))))) ?_ ?_ Sub.refl ?_
  · exact Nat.zero_le _
  · (try dsimp only); exact (Wk.cons (by first | rfl | (simp only [List.length_append, List.length_cons, List.length_nil, List.length_replicate, Nat.zero_add]; rfl) | (simp; done)) (Wk.cons (by first | rfl | (simp only [List.length_append, List.length_cons, List.length_nil, List.length_replicate, Nat.zero_add]; rfl) | (simp; done)) Wk.nil))
  · rintro ⟨i', a, c⟩ hi K5 hK5
    simp only [List.cons_append, List.nil_append]
    refine WC_sr fun K6 hK6 => ?_
    refine WL_rd (Rd_lssN rfl rfl) rfl rfl rfl ?_
    refine WL_end hK6 ?_
    refine WC_seq fun K7 hK7 => ?_
    refine WC_cond rfl (fun hc0 => ?_) (fun hc0 => ?_)
    · try simp only [decide_eq_true_eq, decide_eq_false_iff_not, Bool.not_eq_true', Bool.not_eq_false', Bool.not_eq_true, Bool.not_eq_false, Int.not_lt, Int.not_le, Nat.not_lt, Nat.not_le, Decidable.not_not, ne_eq] at hc0
      obtain ⟨pt, hpt⟩ : ∃ p, ps[i']? = some p := ⟨_, List.getElem?_eq_getElem (by omega)⟩
      have hptS : Sv [X] pt.v 1 (eU .u8 (w := 8)) pt.l pt.ao pt.cap := hP pt (List.mem_of_getElem? hpt)
      have hfl := frP_len hi
      have hle := joinP_le ps i'
      have hle2 := joinP_le ps (i' + 1)
      have hfl2 := frP_len (show i' + 1 ≤ ps.length from by omega)
      have hpl := joinP_len hpt
      have hbl8 := big64_len (BitVec.ofNat 64 pt.l.length)
      have hfb : ((frM ((ps.take i').map (·.l))) ++ big64 (BitVec.ofNat 64 pt.l.length)).length = (frM ((ps.take i').map (·.l))).length + (big64 (BitVec.ofNat 64 pt.l.length)).length := List.length_append
      have hft := frM_take hpt
      have hfe : ((frM ((ps.take i').map (·.l))) ++ big64 (BitVec.ofNat 64 pt.l.length)).length + pt.l.length = (frM ((ps.take (i' + 1)).map (·.l))).length := by rw [← hft]; exact List.length_append.symm
      refine WC_skip ?_
      refine Ps_next hK7 ?_
      refine WC_seq fun K8 hK8 => ?_
      refine WC_block ?_
      refine WC_sr fun K9 hK9 => ?_
      refine WL_rd (Rd_index_sv i' rfl rfl ud22 sz23 (hA := hS) (hi := by omega)) rfl rfl rfl ?_
      refine WL_rd (Rd_load_sv (i := i') (j := 0) rfl tk23 (hA := hS) (hl := hpt)) rfl rfl rfl ?_
      refine WL_rd (Rd_assign rfl) rfl rfl rfl ?_
      refine WL_end hK9 ?_
      refine WC_sr fun K10 hK10 => ?_
      refine WL_rd (Rd_move rfl) rfl rfl rfl ?_
      refine WL_rd (Rd_move rfl) rfl rfl rfl ?_
      refine WL_rd (Rd_len_sv rfl rfl ud23 (hA := hptS)) rfl rfl rfl ?_
      refine WL_rd (Rd_convNU rfl ikd3_58 (h' := uk64)) rfl rfl rfl ?_
      refine WL_ac (Ac_call cf43 rfl (hs := bigu64_ct (x := (BitVec.ofNat 64 pt.l.length)))) rfl rfl rfl ?_
      rintro _ _ ⟨g16, rfl, hA⟩
      simp only [List.cons_append, List.nil_append] at hA
      replace hA := hA.symm
      subst hA
      have hSg : Sv [arr (some g16) 8 1 5 (eU .u8) (big64 (BitVec.ofNat 64 pt.l.length))] (sl (some g16) 8 8) 1 (eU .u8 (w := 8)) (big64 (BitVec.ofNat 64 pt.l.length)) (some ⟨g16, 0, none⟩) 8 := by have h := Sv_own' (a := some g16) (cap := 8) (T := 5) (encU .u8 (w := 8)) (l := big64 (BitVec.ofNat 64 pt.l.length)) (by simp) (by rw [hbl8]; exact Nat.le_refl _); rw [hbl8] at h; exact h
      refine WL_ac (Ac_appendS (f := (eU .u8 (w := 8))) (encU .u8) rfl rfl ud23 ud23 el5 (hS := hSg)) rfl rfl rfl ?_
      rintro _ _ ⟨a17, cap17, rfl, rfl⟩
      refine WL_rd (Rd_assign rfl) rfl rfl rfl ?_
      refine WL_end hK10 ?_
      refine WC_region ?_
      refine WL_rd (Rd_move rfl) rfl rfl rfl ?_
      refine WL_rd (Rd_move rfl) rfl rfl rfl ?_
      refine WL_ac (Ac_appendS (f := (eU .u8 (w := 8))) (encU .u8) rfl rfl ud23 ud23 el5 (hS := hptS)) rfl rfl rfl ?_
      rintro _ _ ⟨a19, cap19, rfl, rfl⟩
      rw [hft, hfe]
      refine WL_rd (Rd_assign rfl) rfl rfl rfl ?_
      refine WL_nil ?_
      refine Ps_next hK8 ?_
      refine WC_region ?_
      refine WL_rd (Rd_addN (j := 1) rfl rfl) rfl rfl rfl ?_
      refine WL_rd (Rd_move rfl) rfl rfl rfl ?_
      refine WL_nil ?_
      refine Ps_wk (by (try simp only [List.cons_append, List.nil_append]); repeat (first | with_reducible exact Wk.nil | refine Wk.cons (by first | rfl | (simp only [List.length_append, List.length_cons, List.length_nil, List.length_replicate, Nat.zero_add]; rfl) | (simp; done)) ?_)) (by (try simp only [List.cons_append, List.nil_append]); repeat (first | with_reducible exact Sub.refl | with_reducible exact Sub.nil | with_reducible refine Sub.cons (by repeat (first | with_reducible exact Ext.here | with_reducible apply Ext.there)) ?_ | with_reducible refine Sub.tail ?_)) (hK5 ⟨i' + 1, a19, cap19⟩ (by dsimp only; omega) (by dsimp only; omega))
    · try simp only [decide_eq_true_eq, decide_eq_false_iff_not, Bool.not_eq_true', Bool.not_eq_false', Bool.not_eq_true, Bool.not_eq_false, Int.not_lt, Int.not_le, Nat.not_lt, Nat.not_le, Decidable.not_not, ne_eq] at hc0
      obtain rfl : i' = ps.length := by omega
      rw [List.take_length]
      refine WC_exit ?_
      refine Ps_next hK3 ?_
      refine WC_sr fun K11 hK11 => ?_
      refine WL_rd (Rd_move rfl) rfl rfl rfl ?_
      refine WL_rd (Rd_assign rfl) rfl rfl rfl ?_
      refine WL_end hK11 ?_
      refine WC_ret ?_
      exact hret.go (a, c) (Rs1 rfl rfl)

theorem grow2_ct {n : Nat} (hn : n ≤ 900000000000 := by omega) : Ct Try.prog 44 [sl none 0 0, .int .i64 ((n : Nat) : Int)] [] (fun g : Option Nat × Nat => sl g.1 0 g.2) (fun g => [arr g.1 g.2 1 23 fP ([] : List Pt)]) := by
  refine Ct_body (n := 27) Try.func44 rfl rfl rfl fun F w0 Q hret hnorm hp => ?_
  change WC _ _ _ _ _ _ _ (F)
  refine WC_sr fun K1 hK1 => ?_
  refine WL_rd (Rd_assign (v := sl none 0 0) rfl) rfl rfl rfl ?_
  refine WL_end hK1 ?_
  refine WC_seq fun K2 hK2 => ?_
  refine WC_sr fun K3 hK3 => ?_
  refine WL_rd (Rd_move rfl) rfl rfl rfl ?_
  refine WL_rd (Rd_isF (Rd_lssN (j := 0) rfl rfl)) rfl rfl rfl ?_
  refine WL_end hK3 ?_
  refine WC_condF rfl ?_
  refine WC_skip ?_
  refine Ps_next hK2 ?_
  refine WC_seq fun K4 hK4 => ?_
  refine WC_sr fun K5 hK5 => ?_
  refine WL_rd (Rd_move rfl) rfl rfl rfl ?_
  refine WL_rd (Rd_move rfl) rfl rfl rfl ?_
  refine WL_rd (Rd_cap rfl rfl ud22) rfl rfl rfl ?_
  refine WL_rd (Rd_move rfl) rfl rfl rfl ?_
  refine WL_rd (Rd_len rfl rfl ud22) rfl rfl rfl ?_
  refine WL_rd (Rd_subN rfl rfl) rfl rfl rfl ?_
  refine WL_rd (Rd_subN rfl rfl) rfl rfl rfl ?_
  refine WL_rd (Rd_assign rfl) rfl rfl rfl ?_
  refine WL_end hK5 ?_
  refine WC_sr fun K6 hK6 => ?_
  refine WL_rd (Rd_move rfl) rfl rfl rfl ?_
  refine WL_rd (Rd_gtrN (j := 0) rfl rfl) rfl rfl rfl ?_
  refine WL_end hK6 ?_
  refine WC_cond rfl (fun hc1 => ?_) (fun hc1 => ?_)
  · try simp only [decide_eq_true_eq, decide_eq_false_iff_not, Bool.not_eq_true', Bool.not_eq_false', Bool.not_eq_true, Bool.not_eq_false, Int.not_lt, Int.not_le, Nat.not_lt, Nat.not_le, Decidable.not_not, ne_eq] at hc1
    refine WC_region ?_
    refine WL_rd (Rd_move rfl) rfl rfl rfl ?_
    refine WL_rd (Rd_move rfl) rfl rfl rfl ?_
    refine WL_rd (Rd_cap rfl rfl ud22) rfl rfl rfl ?_
    refine WL_rd (Rd_slice_hi 0 rfl rfl ud22 sz23) rfl rfl rfl ?_
    refine WL_rd (Rd_move rfl) rfl rfl rfl ?_
    refine WL_ac (Ac_appendZ (f := fP) (⟨[], none, 0⟩ : Pt) encP rfl rfl rfl ud22 ud3 el23 zr23) rfl rfl rfl ?_
    rintro _ _ ⟨b22, c22, rfl, rfl⟩
    refine WL_rd (Rd_move rfl) rfl rfl rfl ?_
    refine WL_rd (Rd_len rfl rfl ud22) rfl rfl rfl ?_
    refine WL_rd (Rd_slice_hi _ rfl rfl ud22 sz23) rfl rfl rfl ?_
    refine WL_take 0 (by repeat (first | with_reducible exact Ext.here | with_reducible apply Ext.there)) ?_
    rw [List.take_zero]
    refine WL_rd (Rd_assign rfl) rfl rfl rfl ?_
    refine WL_nil ?_
    refine Ps_next hK4 ?_
    refine WC_sr fun K7 hK7 => ?_
    refine WL_rd (Rd_move rfl) rfl rfl rfl ?_
    refine WL_rd (Rd_assign rfl) rfl rfl rfl ?_
    refine WL_end hK7 ?_
    refine WC_ret ?_
    first | exact hret.go (some b22, c22) (Rs1 rfl rfl) | exact hret.go (none, 0) (Rs1 rfl rfl)
  · try simp only [decide_eq_true_eq, decide_eq_false_iff_not, Bool.not_eq_true', Bool.not_eq_false', Bool.not_eq_true, Bool.not_eq_false, Int.not_lt, Int.not_le, Nat.not_lt, Nat.not_le, Decidable.not_not, ne_eq] at hc1
    refine WC_imp (fun w h => sat_nil (e := 1) (T := 23) (f := fP) h) ?_
    refine WC_skip ?_
    refine Ps_next hK4 ?_
    refine WC_sr fun K8 hK8 => ?_
    refine WL_rd (Rd_move rfl) rfl rfl rfl ?_
    refine WL_rd (Rd_assign rfl) rfl rfl rfl ?_
    refine WL_end hK8 ?_
    refine WC_ret ?_
    first | exact hret.go (some b22, c22) (Rs1 rfl rfl) | exact hret.go (none, 0) (Rs1 rfl rfl)

theorem concat2_ct {X : Asn} {v : Value} {qs : List PPt} {ao : Option Addr} {cap2 : Nat} (hS : Sv [X] v 1 fPP qs ao cap2 := by assumption) (hQ : ∀ q ∈ qs, Sv [X] q.v 1 fP q.l q.ao q.cap := by assumption) (hn : (catP qs).length ≤ 900000000000 := by omega) (hk : qs.length ≤ 900000000000 := by omega) : Ct Try.prog 18 [v] [X] (fun g : Option Nat × Nat => sl g.1 (catP qs).length g.2) (fun g => [X, arr g.1 g.2 1 23 fP (catP qs)]) := by
  refine Ct_body (n := 36) Try.func18 rfl rfl rfl fun F w0 Q hret hnorm hp => ?_
  change WC _ _ _ _ _ _ _ (_ :: F)
  have hcn : (catP (qs.take 0)).length = 0 := rfl
  refine WC_sr fun K1 hK1 => ?_
  refine WL_rd (Rd_assign (v := sl none 0 0) rfl) rfl rfl rfl ?_
  refine WL_end hK1 ?_
  refine WC_sr fun K2 hK2 => ?_
  refine WL_rd (Rd_assign rfl) rfl rfl rfl ?_
  refine WL_end hK2 ?_
  refine WC_seq fun K3 hK3 => ?_
  refine WC_sr fun K4 hK4 => ?_
  refine WL_rd (Rd_move rfl) rfl rfl rfl ?_
  refine WL_rd (Rd_len_sv rfl rfl ud35) rfl rfl rfl ?_
  refine WL_rd (Rd_move rfl) rfl rfl rfl ?_
  refine WL_end hK4 ?_
  refine WC_block ?_
  refine WC_loopK (σ := Nat) (fun i' => [(3, .int .i64 (((catP (qs.take i')).length : Nat) : Int)), (11, .int .i64 ((i' : Nat) : Int))]) (fun i' => []) (fun i' => i' ≤ qs.length) (fun i' => qs.length - i') (0) [0, 2, 6, 8, 9, 10, 23, 24, 25, 26, 27, 28, 29, 30, 31, 32, 33, 34, 35] (by repeat (first | exact Kep.nil | apply Kep.drop rfl | apply Kep.keep rfl)) (by (try dsimp only); repeat (first | with_reducible exact Gv.nil | (with_reducible apply Gv.cons; · (repeat (first | with_reducible exact Ext.here | with_reducible apply Ext.there))))) ?_ ?_ Sub.refl ?_
  · exact Nat.zero_le _
  · (try dsimp only); exact (Wk.cons (by first | rfl | (simp only [List.length_append, List.length_cons, List.length_nil, List.length_replicate, Nat.zero_add]; rfl) | (simp; done)) (Wk.cons (by first | rfl | (simp only [List.length_append, List.length_cons, List.length_nil, List.length_replicate, Nat.zero_add]; rfl) | (simp; done)) Wk.nil))
  · rintro i' hi K5 hK5
    simp only [List.cons_append, List.nil_append]
    refine WC_sr fun K6 hK6 => ?_
    refine WL_rd (Rd_lssN rfl rfl) rfl rfl rfl ?_
    refine WL_end hK6 ?_
    refine WC_seq fun K7 hK7 => ?_
    refine WC_cond rfl (fun hc0 => ?_) (fun hc0 => ?_)
    · try simp only [decide_eq_true_eq, decide_eq_false_iff_not, Bool.not_eq_true', Bool.not_eq_false', Bool.not_eq_true, Bool.not_eq_false, Int.not_lt, Int.not_le, Nat.not_lt, Nat.not_le, Decidable.not_not, ne_eq] at hc0
      obtain ⟨qt, hqt⟩ : ∃ q, qs[i']? = some q := ⟨_, List.getElem?_eq_getElem (by omega)⟩
      have hqtS : Sv [X] qt.v 1 fP qt.l qt.ao qt.cap := hQ qt (List.mem_of_getElem? hqt)
      have hpl := catP_len hqt
      have hle := catP_le qs (i' + 1)
      refine WC_skip ?_
      refine Ps_next hK7 ?_
      refine WC_seq fun K8 hK8 => ?_
      refine WC_block ?_
      refine WC_sr fun K9 hK9 => ?_
      refine WL_rd (Rd_index_sv i' rfl rfl ud35 sz22 (hA := hS) (hi := by omega)) rfl rfl rfl ?_
      refine WL_rd (Rd_load_sv (i := i') (j := 0) rfl tk22 (hA := hS) (hl := hqt)) rfl rfl rfl ?_
      refine WL_rd (Rd_assign rfl) rfl rfl rfl ?_
      refine WL_end hK9 ?_
      refine WC_sr fun K10 hK10 => ?_
      refine WL_rd (Rd_move rfl) rfl rfl rfl ?_
      refine WL_rd (Rd_move rfl) rfl rfl rfl ?_
      refine WL_rd (Rd_len_sv rfl rfl ud22 (hA := hqtS)) rfl rfl rfl ?_
      refine WL_rd (Rd_addN rfl rfl) rfl rfl rfl ?_
      rw [hpl]
      refine WL_rd (Rd_assign rfl) rfl rfl rfl ?_
      refine WL_end hK10 ?_
      refine WC_sr fun K11 hK11 => ?_
      refine WL_rd (Rd_move rfl) rfl rfl rfl ?_
      refine WL_rd (Rd_isF (Rd_lssN (j := 0) rfl rfl)) rfl rfl rfl ?_
      refine WL_end hK11 ?_
      refine WC_condF rfl ?_
      refine WC_skip ?_
      refine Ps_next hK8 ?_
      refine WC_region ?_
      refine WL_rd (Rd_addN (j := 1) rfl rfl) rfl rfl rfl ?_
      refine WL_rd (Rd_move rfl) rfl rfl rfl ?_
      refine WL_nil ?_
      refine Ps_wk (by (try simp only [List.cons_append, List.nil_append]); repeat (first | with_reducible exact Wk.nil | refine Wk.cons (by first | rfl | (simp only [List.length_append, List.length_cons, List.length_nil, List.length_replicate, Nat.zero_add]; rfl) | (simp; done)) ?_)) (by (try simp only [List.cons_append, List.nil_append]); repeat (first | with_reducible exact Sub.refl | with_reducible exact Sub.nil | with_reducible refine Sub.cons (by repeat (first | with_reducible exact Ext.here | with_reducible apply Ext.there)) ?_ | with_reducible refine Sub.tail ?_)) (hK5 (i' + 1) (by omega) (by omega))
    · try simp only [decide_eq_true_eq, decide_eq_false_iff_not, Bool.not_eq_true', Bool.not_eq_false', Bool.not_eq_true, Bool.not_eq_false, Int.not_lt, Int.not_le, Nat.not_lt, Nat.not_le, Decidable.not_not, ne_eq] at hc0
      obtain rfl : i' = qs.length := by omega
      have hle := catP_le qs qs.length
      refine WC_exit ?_
      refine Ps_next hK3 ?_
      refine WC_sr fun K12 hK12 => ?_
      refine WL_rd (Rd_move rfl) rfl rfl rfl ?_
      refine WL_ac (Ac_call cf44 rfl (hs := grow2_ct (n := (catP (qs.take qs.length)).length))) rfl rfl rfl ?_
      rintro _ _ ⟨⟨a24, cap24⟩, rfl, hA⟩
      simp only [List.cons_append, List.nil_append] at hA
      replace hA := hA.symm
      subst hA
      refine WL_rd (Rd_assign rfl) rfl rfl rfl ?_
      refine WL_end hK12 ?_
      refine WC_seq fun K13 hK13 => ?_
      refine WC_sr fun K14 hK14 => ?_
      refine WL_rd (Rd_move rfl) rfl rfl rfl ?_
      refine WL_rd (Rd_len_sv rfl rfl ud35) rfl rfl rfl ?_
      refine WL_rd (Rd_move rfl) rfl rfl rfl ?_
      refine WL_end hK14 ?_
      refine WC_block ?_
      rw [show ([] : List Pt) = catP (qs.take 0) from rfl]
      refine WC_loopK (σ := Nat × (Option Nat) × Nat) (fun ⟨i2, a2, cap3⟩ => [(6, sl a2 (catP (qs.take i2)).length cap3), (27, .int .i64 ((i2 : Nat) : Int))]) (fun ⟨i2, a2, cap3⟩ => [arr a2 cap3 1 23 fP (catP (qs.take i2))]) (fun ⟨i2, a2, cap3⟩ => i2 ≤ qs.length) (fun ⟨i2, a2, cap3⟩ => qs.length - i2) ⟨0, a24, cap24⟩ [2, 25, 26, 35] (by repeat (first | exact Kep.nil | apply Kep.drop rfl | apply Kep.keep rfl)) (by (try dsimp only); repeat (first | with_reducible exact Gv.nil | (with_reducible apply Gv.cons; · (repeat (first | with_reducible exact Ext.here | with_reducible apply Ext.there))))) ?_ ?_ Sub.refl ?_
      · exact Nat.zero_le _
      · (try dsimp only); exact (Wk.cons (by first | rfl | (simp only [List.length_append, List.length_cons, List.length_nil, List.length_replicate, Nat.zero_add]; rfl) | (simp; done)) (Wk.cons (by first | rfl | (simp only [List.length_append, List.length_cons, List.length_nil, List.length_replicate, Nat.zero_add]; rfl) | (simp; done)) Wk.nil))
      · rintro ⟨i2, a2, cap3⟩ hj K15 hK15
        simp only [List.cons_append, List.nil_append]
        refine WC_sr fun K16 hK16 => ?_
        refine WL_rd (Rd_lssN rfl rfl) rfl rfl rfl ?_
        refine WL_end hK16 ?_
        refine WC_seq fun K17 hK17 => ?_
        refine WC_cond rfl (fun hc2 => ?_) (fun hc2 => ?_)
        · try simp only [decide_eq_true_eq, decide_eq_false_iff_not, Bool.not_eq_true', Bool.not_eq_false', Bool.not_eq_true, Bool.not_eq_false, Int.not_lt, Int.not_le, Nat.not_lt, Nat.not_le, Decidable.not_not, ne_eq] at hc2
          obtain ⟨qt, hqt⟩ : ∃ q, qs[i2]? = some q := ⟨_, List.getElem?_eq_getElem (by omega)⟩
          have hqtS : Sv [X] qt.v 1 fP qt.l qt.ao qt.cap := hQ qt (List.mem_of_getElem? hqt)
          have hpl := catP_len hqt
          have hle := catP_le qs (i2 + 1)
          refine WC_skip ?_
          refine Ps_next hK17 ?_
          refine WC_seq fun K18 hK18 => ?_
          refine WC_block ?_
          refine WC_sr fun K19 hK19 => ?_
          refine WL_rd (Rd_index_sv i2 rfl rfl ud35 sz22 (hA := hS) (hi := by omega)) rfl rfl rfl ?_
          refine WL_rd (Rd_load_sv (i := i2) (j := 0) rfl tk22 (hA := hS) (hl := hqt)) rfl rfl rfl ?_
          refine WL_rd (Rd_assign rfl) rfl rfl rfl ?_
          refine WL_end hK19 ?_
          refine WC_region ?_
          refine WL_rd (Rd_move rfl) rfl rfl rfl ?_
          refine WL_rd (Rd_move rfl) rfl rfl rfl ?_
          refine WL_ac (Ac_appendS (f := fP) encP rfl rfl ud22 ud22 el23 (hS := hqtS)) rfl rfl rfl ?_
          rintro _ _ ⟨a33, cap33, rfl, rfl⟩
          rw [hpl, catP_take hqt]
          refine WL_rd (Rd_assign rfl) rfl rfl rfl ?_
          refine WL_nil ?_
          refine Ps_next hK18 ?_
          refine WC_region ?_
          refine WL_rd (Rd_addN (j := 1) rfl rfl) rfl rfl rfl ?_
          refine WL_rd (Rd_move rfl) rfl rfl rfl ?_
          refine WL_nil ?_
          refine Ps_wk (by (try simp only [List.cons_append, List.nil_append]); repeat (first | with_reducible exact Wk.nil | refine Wk.cons (by first | rfl | (simp only [List.length_append, List.length_cons, List.length_nil, List.length_replicate, Nat.zero_add]; rfl) | (simp; done)) ?_)) (by (try simp only [List.cons_append, List.nil_append]); repeat (first | with_reducible exact Sub.refl | with_reducible exact Sub.nil | with_reducible refine Sub.cons (by repeat (first | with_reducible exact Ext.here | with_reducible apply Ext.there)) ?_ | with_reducible refine Sub.tail ?_)) (hK15 ⟨i2 + 1, a33, cap33⟩ (by dsimp only; omega) (by dsimp only; omega))
        · try simp only [decide_eq_true_eq, decide_eq_false_iff_not, Bool.not_eq_true', Bool.not_eq_false', Bool.not_eq_true, Bool.not_eq_false, Int.not_lt, Int.not_le, Nat.not_lt, Nat.not_le, Decidable.not_not, ne_eq] at hc2
          obtain rfl : i2 = qs.length := by omega
          rw [catP_all (Nat.le_refl _)]
          refine WC_exit ?_
          refine Ps_next hK13 ?_
          refine WC_sr fun K20 hK20 => ?_
          refine WL_rd (Rd_move rfl) rfl rfl rfl ?_
          refine WL_rd (Rd_assign rfl) rfl rfl rfl ?_
          refine WL_end hK20 ?_
          refine WC_ret ?_
          exact hret.go (a2, cap3) (Rs1 rfl rfl)
end Go.Proofs.Ytlcafifjhilleaa
namespace Go.Proofs.Ytlcafifjhilleaa
open Go.RowKit Go.SL Go.ShM
set_option maxHeartbeats 1000000
set_option maxRecDepth 20000
set_option linter.all false
theorem cf15 : cfn Try.prog 15 = true := by kernel_rfl
theorem cf16 : cfn Try.prog 16 = true := by kernel_rfl
theorem cf17 : cfn Try.prog 17 = true := by kernel_rfl
theorem cf18 : cfn Try.prog 18 = true := by kernel_rfl
theorem ud9 : Try.prog.underlying 9 = some (.string) := by kernel_rfl
theorem zr22 : zr Try.prog 22 = some [.slice none 0 0] := by kernel_rfl
theorem tag50 {t : B8} {ls : List (List B8)} (h : (wordS t).size = 0) : tagB t ls = [] ∧ tagE t ls = 50 := by unfold tagB tagE; rw [if_pos h, if_pos h]; exact ⟨rfl, rfl⟩
theorem tag51 {t : B8} {ls : List (List B8)} (h : ¬ (wordS t).size = 0) (h' : fitM t (lens ls) = false) : tagB t ls = [] ∧ tagE t ls = 51 := by unfold tagB tagE; rw [if_neg h, if_neg h, h']; exact ⟨rfl, rfl⟩
theorem tag0 {t : B8} {ls : List (List B8)} (h : ¬ (wordS t).size = 0) (h' : fitM t (lens ls) = true) : tagB t ls = frM (bsS (wordS t) :: ls) ∧ tagE t ls = 0 := by unfold tagB tagE; rw [if_neg h, if_neg h, h']; exact ⟨rfl, rfl⟩

theorem Rd_isEq {n : Nat} {o : Oper} {L : List (Nat × Value)} {A : List Asn} {b c : Bool} (e : b = c) (h : Rd Try.prog n o L A (.bool b)) : Rd Try.prog n o L A (.bool c) := e ▸ h

theorem bytes_ct {t : B8} {X : Asn} {v : Value} {ps : List Pt} {ao : Option Addr} {cap : Nat} (hS : Sv [X] v 1 fP ps ao cap := by assumption) (hP : ∀ p ∈ ps, RdP [X] p := by assumption) (hn : (joinP ps).length ≤ 400000000000 := by omega) (hk : ps.length ≤ 1000000000 := by omega) : Ct Try.prog 6 [.int .u8 ((t.toNat : Nat) : Int), v] [X] (fun g : Option Nat × Nat => .tuple #[sl g.1 (tagB t (ps.map (·.l))).length g.2, .int .i64 ((tagE t (ps.map (·.l)) : Nat) : Int)]) (fun g => [X, arr g.1 g.2 1 5 (eU .u8) (tagB t (ps.map (·.l)))]) := by
  refine Ct_body (n := 23) Try.func6 rfl rfl rfl fun F w0 Q hret hnorm hp => ?_
  change WC _ _ _ _ _ _ _ (_ :: F)
  obtain rfl := hS.val
  have hwl := bsS_le t
  refine WC_sr fun K1 hK1 => ?_
  refine WL_rd (Rd_assign (v := sl none 0 0) rfl) rfl rfl rfl ?_
  refine WL_rd (Rd_assign rfl) rfl rfl rfl ?_
  refine WL_end hK1 ?_
  refine WC_seq fun K2 hK2 => ?_
  refine WC_block ?_
  refine WC_sr fun K3 hK3 => ?_
  refine WL_rd (Rd_move rfl) rfl rfl rfl ?_
  refine WL_ac (Ac_call cf15 rfl (hs := word_ct)) rfl rfl rfl ?_
  rintro _ _ ⟨⟨⟩, rfl, hA⟩
  simp only [List.cons_append, List.nil_append] at hA
  replace hA := hA.symm
  subst hA
  refine WL_rd (Rd_isEq (word_eq0 t) (Rd_streq rfl rfl)) rfl rfl rfl ?_
  refine WL_rd (Rd_assign rfl) rfl rfl rfl ?_
  refine WL_end hK3 ?_
  refine WC_cond rfl (fun hc0 => ?_) (fun hc0 => ?_)
  · try simp only [decide_eq_true_eq, decide_eq_false_iff_not, Bool.not_eq_true', Bool.not_eq_false', Bool.not_eq_true, Bool.not_eq_false, Int.not_lt, Int.not_le, Nat.not_lt, Nat.not_le, Decidable.not_not, ne_eq] at hc0
    obtain ⟨e50a, e50b⟩ := tag50 (ls := ps.map (·.l)) hc0
    rw [e50a] at hret
    refine WC_imp (fun w h => sat_nil (e := 1) (T := 5) (f := eU .u8 (w := 8)) h) ?_
    refine WC_sr fun K4 hK4 => ?_
    refine WL_rd (Rd_assign (v := sl none 0 0) rfl) rfl rfl rfl ?_
    refine WL_rd (Rd_assign rfl) rfl rfl rfl ?_
    refine WL_end hK4 ?_
    refine WC_ret ?_
    first | exact hret.goE (none, 0) (Rs2 rfl rfl rfl) (by rw [e50b]; rfl) | exact hret.goE (none, 0) (Rs2 rfl rfl rfl) (by rw [e51b]; rfl) | exact hret.goE (a22, cap22) (Rs2 rfl rfl rfl) (by rw [e0b]; rfl)
  · try simp only [decide_eq_true_eq, decide_eq_false_iff_not, Bool.not_eq_true', Bool.not_eq_false', Bool.not_eq_true, Bool.not_eq_false, Int.not_lt, Int.not_le, Nat.not_lt, Nat.not_le, Decidable.not_not, ne_eq] at hc0
    refine WC_sr fun K5 hK5 => ?_
    refine WL_rd (Rd_move rfl) rfl rfl rfl ?_
    refine WL_rd (Rd_move rfl) rfl rfl rfl ?_
    refine WL_ac (Ac_call cf16 rfl (hs := fit_ct (t := t) (ps := ps))) rfl rfl rfl ?_
    rintro _ _ ⟨⟨⟩, rfl, hA⟩
    simp only [List.cons_append, List.nil_append] at hA
    replace hA := hA.symm
    subst hA
    refine WL_rd (Rd_not rfl) rfl rfl rfl ?_
    refine WL_rd (Rd_assign rfl) rfl rfl rfl ?_
    refine WL_end hK5 ?_
    refine WC_cond rfl (fun hc1 => ?_) (fun hc1 => ?_)
    · try simp only [decide_eq_true_eq, decide_eq_false_iff_not, Bool.not_eq_true', Bool.not_eq_false', Bool.not_eq_true, Bool.not_eq_false, Int.not_lt, Int.not_le, Nat.not_lt, Nat.not_le, Decidable.not_not, ne_eq] at hc1
      obtain ⟨e51a, e51b⟩ := tag51 (ls := ps.map (·.l)) hc0 hc1
      rw [e51a] at hret
      refine WC_imp (fun w h => sat_nil (e := 1) (T := 5) (f := eU .u8 (w := 8)) h) ?_
      refine WC_sr fun K6 hK6 => ?_
      refine WL_rd (Rd_assign (v := sl none 0 0) rfl) rfl rfl rfl ?_
      refine WL_rd (Rd_assign rfl) rfl rfl rfl ?_
      refine WL_end hK6 ?_
      refine WC_ret ?_
      first | exact hret.goE (none, 0) (Rs2 rfl rfl rfl) (by rw [e50b]; rfl) | exact hret.goE (none, 0) (Rs2 rfl rfl rfl) (by rw [e51b]; rfl) | exact hret.goE (a22, cap22) (Rs2 rfl rfl rfl) (by rw [e0b]; rfl)
    · try simp only [decide_eq_true_eq, decide_eq_false_iff_not, Bool.not_eq_true', Bool.not_eq_false', Bool.not_eq_true, Bool.not_eq_false, Int.not_lt, Int.not_le, Nat.not_lt, Nat.not_le, Decidable.not_not, ne_eq] at hc1
      obtain ⟨e0a, e0b⟩ := tag0 (ls := ps.map (·.l)) hc0 hc1
      rw [e0a] at hret
      have hfq := frP_all (ps := ps)
      refine WC_skip ?_
      refine Ps_next hK2 ?_
      refine WC_sr fun K7 hK7 => ?_
      refine WL_rd (Rd_move rfl) rfl rfl rfl ?_
      refine WL_ac (Ac_call cf15 rfl (hs := word_ct)) rfl rfl rfl ?_
      rintro _ _ ⟨⟨⟩, rfl, hA⟩
      simp only [List.cons_append, List.nil_append] at hA
      replace hA := hA.symm
      subst hA
      refine WL_ac (Ac_convSB rfl ud9 ud23 ud5 (by omega) (by have := wordS_size t; omega)) rfl rfl rfl ?_
      rintro _ _ ⟨b17, cap17, rfl, rfl⟩
      refine WL_ac (Ac_bsL (f := fP) (zs := [.slice none 0 0]) (bs := [.slice none 0 0]) [(⟨bsS (wordS t), some ⟨b17, 0, none⟩, cap17⟩ : Pt)] encP ud22 zr23 sz23 rfl (by rw [Array.toList_map, Array.toList_range]; rfl) (by rfl) (by rfl) (by rfl) (by rfl)) rfl rfl rfl ?_
      rintro _ _ ⟨b18, rfl, rfl⟩
      refine WL_rd (Rd_move rfl) rfl rfl rfl ?_
      refine WL_ac (Ac_bsL (f := fPP) (zs := [.slice none 0 0]) (bs := [.slice none 0 0, .slice none 0 0]) [(⟨[(⟨bsS (wordS t), some ⟨b17, 0, none⟩, cap17⟩ : Pt)], some ⟨b18, 0, none⟩, 1⟩ : PPt), (⟨ps, ao, cap⟩ : PPt)] encPP ud35 zr22 sz22 rfl (by rw [Array.toList_map, Array.toList_range]; rfl) (by rfl) (by rfl) (by rfl) (by rfl)) rfl rfl rfl ?_
      rintro _ _ ⟨b20, rfl, rfl⟩
      refine WL_fact (fun w h => frA_cap (b := b17) (cap := cap17) (e := 1) (T := 5) (f := eU .u8 (w := 8)) (l := (bsS (wordS t))) (by repeat (first | with_reducible exact Has.here | with_reducible refine Has.there ?_)) h) (fun hcw => ?_)
      have hW : RdP [frA b17 cap17 1 5 (eU .u8 (w := 8)) (bsS (wordS t))] (⟨bsS (wordS t), some ⟨b17, 0, none⟩, cap17⟩ : Pt) := Sv_fr (encU .u8 (w := 8)) hcw
      have h18 : Sv [arr (some b18) 1 1 23 fP [(⟨bsS (wordS t), some ⟨b17, 0, none⟩, cap17⟩ : Pt)]] (sl (some b18) 1 1) 1 fP [(⟨bsS (wordS t), some ⟨b17, 0, none⟩, cap17⟩ : Pt)] (some ⟨b18, 0, none⟩) 1 := Sv_own' (a := some b18) (cap := 1) (T := 23) encP (l := [(⟨bsS (wordS t), some ⟨b17, 0, none⟩, cap17⟩ : Pt)]) (by simp) (Nat.le_refl 1)
      have h20 : Sv [arr (some b20) 2 1 22 fPP [(⟨[(⟨bsS (wordS t), some ⟨b17, 0, none⟩, cap17⟩ : Pt)], some ⟨b18, 0, none⟩, 1⟩ : PPt), (⟨ps, ao, cap⟩ : PPt)]] (sl (some b20) 2 2) 1 fPP [(⟨[(⟨bsS (wordS t), some ⟨b17, 0, none⟩, cap17⟩ : Pt)], some ⟨b18, 0, none⟩, 1⟩ : PPt), (⟨ps, ao, cap⟩ : PPt)] (some ⟨b20, 0, none⟩) 2 := Sv_own' (a := some b20) (cap := 2) (T := 22) encPP (l := [(⟨[(⟨bsS (wordS t), some ⟨b17, 0, none⟩, cap17⟩ : Pt)], some ⟨b18, 0, none⟩, 1⟩ : PPt), (⟨ps, ao, cap⟩ : PPt)]) (by simp) (Nat.le_refl 2)
      have hcat : catP [(⟨[(⟨bsS (wordS t), some ⟨b17, 0, none⟩, cap17⟩ : Pt)], some ⟨b18, 0, none⟩, 1⟩ : PPt), (⟨ps, ao, cap⟩ : PPt)] = ((⟨bsS (wordS t), some ⟨b17, 0, none⟩, cap17⟩ : Pt) :: ps) := by simp [catP]
      refine WL_ac (Ac_call cf18 rfl (hs := Ct.un0 (Xs := [arr (some b20) 2 1 22 fPP [(⟨[(⟨bsS (wordS t), some ⟨b17, 0, none⟩, cap17⟩ : Pt)], some ⟨b18, 0, none⟩, 1⟩ : PPt), (⟨ps, ao, cap⟩ : PPt)], arr (some b18) 1 1 23 fP [(⟨bsS (wordS t), some ⟨b17, 0, none⟩, cap17⟩ : Pt)], frA b17 cap17 1 5 (eU .u8 (w := 8)) (bsS (wordS t)), X]) (concat2_ct (X := sep [arr (some b20) 2 1 22 fPP [(⟨[(⟨bsS (wordS t), some ⟨b17, 0, none⟩, cap17⟩ : Pt)], some ⟨b18, 0, none⟩, 1⟩ : PPt), (⟨ps, ao, cap⟩ : PPt)], arr (some b18) 1 1 23 fP [(⟨bsS (wordS t), some ⟨b17, 0, none⟩, cap17⟩ : Pt)], frA b17 cap17 1 5 (eU .u8 (w := 8)) (bsS (wordS t)), X]) (qs := [(⟨[(⟨bsS (wordS t), some ⟨b17, 0, none⟩, cap17⟩ : Pt)], some ⟨b18, 0, none⟩, 1⟩ : PPt), (⟨ps, ao, cap⟩ : PPt)]) (hS := h20.pk (by repeat (first | with_reducible exact Has.here | with_reducible refine Has.there ?_))) (hQ := List.forall_mem_cons.2 ⟨h18.pk (by repeat (first | with_reducible exact Has.here | with_reducible refine Has.there ?_)), List.forall_mem_cons.2 ⟨hS.pk (by repeat (first | with_reducible exact Has.here | with_reducible refine Has.there ?_)), by simp⟩⟩) (hn := by rw [hcat, List.length_cons]; omega) (hk := by show 2 ≤ _; omega)))) rfl rfl rfl ?_
      rintro _ _ ⟨⟨a21, cap21⟩, rfl, hA⟩
      simp only [List.cons_append, List.nil_append] at hA
      replace hA := hA.symm
      subst hA
      rw [hcat]
      refine WL_fact (fun w h => arr_facts (a := a21) (cap := cap21) (e := 1) (T := 23) (f := fP) (l := ((⟨bsS (wordS t), some ⟨b17, 0, none⟩, cap17⟩ : Pt) :: ps)) (by repeat (first | with_reducible exact Has.here | with_reducible refine Has.there ?_)) h) (fun h21f => ?_)
      have h21 : Sv [arr a21 cap21 1 23 fP ((⟨bsS (wordS t), some ⟨b17, 0, none⟩, cap17⟩ : Pt) :: ps)] (sl a21 ((⟨bsS (wordS t), some ⟨b17, 0, none⟩, cap17⟩ : Pt) :: ps).length cap21) 1 fP ((⟨bsS (wordS t), some ⟨b17, 0, none⟩, cap17⟩ : Pt) :: ps) (a21.map fun g => ⟨g, 0, none⟩) cap21 := Sv_own' encP h21f.1 h21f.2
      have hjp : (joinP ((⟨bsS (wordS t), some ⟨b17, 0, none⟩, cap17⟩ : Pt) :: ps)).length = (bsS (wordS t)).length + (joinP ps).length := by simp [joinP]
      have hls : (((⟨bsS (wordS t), some ⟨b17, 0, none⟩, cap17⟩ : Pt) :: ps).map (·.l)) = (bsS (wordS t)) :: ps.map (·.l) := rfl
      refine WL_ac (Ac_call cf17 rfl (hs := Ct.un0 (Xs := [arr a21 cap21 1 23 fP ((⟨bsS (wordS t), some ⟨b17, 0, none⟩, cap17⟩ : Pt) :: ps), arr (some b20) 2 1 22 fPP [(⟨[(⟨bsS (wordS t), some ⟨b17, 0, none⟩, cap17⟩ : Pt)], some ⟨b18, 0, none⟩, 1⟩ : PPt), (⟨ps, ao, cap⟩ : PPt)], arr (some b18) 1 1 23 fP [(⟨bsS (wordS t), some ⟨b17, 0, none⟩, cap17⟩ : Pt)], frA b17 cap17 1 5 (eU .u8 (w := 8)) (bsS (wordS t)), X]) (framed_ct (X := sep [arr a21 cap21 1 23 fP ((⟨bsS (wordS t), some ⟨b17, 0, none⟩, cap17⟩ : Pt) :: ps), arr (some b20) 2 1 22 fPP [(⟨[(⟨bsS (wordS t), some ⟨b17, 0, none⟩, cap17⟩ : Pt)], some ⟨b18, 0, none⟩, 1⟩ : PPt), (⟨ps, ao, cap⟩ : PPt)], arr (some b18) 1 1 23 fP [(⟨bsS (wordS t), some ⟨b17, 0, none⟩, cap17⟩ : Pt)], frA b17 cap17 1 5 (eU .u8 (w := 8)) (bsS (wordS t)), X]) (ps := ((⟨bsS (wordS t), some ⟨b17, 0, none⟩, cap17⟩ : Pt) :: ps)) (hS := h21.pk (by repeat (first | with_reducible exact Has.here | with_reducible refine Has.there ?_))) (hP := List.forall_mem_cons.2 ⟨hW.pk (by repeat (first | with_reducible exact Has.here | with_reducible refine Has.there ?_)), fun p h => (hP p h).pk (by repeat (first | with_reducible exact Has.here | with_reducible refine Has.there ?_))⟩) (hn := by rw [hjp]; omega) (hk := by rw [List.length_cons]; omega)))) rfl rfl rfl ?_
      rintro _ _ ⟨⟨a22, cap22⟩, rfl, hA⟩
      simp only [List.cons_append, List.nil_append] at hA
      replace hA := hA.symm
      subst hA
      rw [hls]
      refine WL_rd (Rd_assign rfl) rfl rfl rfl ?_
      refine WL_rd (Rd_assign rfl) rfl rfl rfl ?_
      refine WL_end hK7 ?_
      refine WC_ret ?_
      first | exact hret.goE (none, 0) (Rs2 rfl rfl rfl) (by rw [e50b]; rfl) | exact hret.goE (none, 0) (Rs2 rfl rfl rfl) (by rw [e51b]; rfl) | exact hret.goE (a22, cap22) (Rs2 rfl rfl rfl) (by rw [e0b]; rfl)
end Go.Proofs.Ytlcafifjhilleaa
namespace Go.Proofs.Ytlcafifjhilleaa
open Go.RowKit Go.SL Go.ShM
set_option maxHeartbeats 1000000
set_option maxRecDepth 20000
set_option linter.all false
theorem cf6 : cfn Try.prog 6 = true := by kernel_rfl
theorem cf26 : cfn Try.prog 26 = true := by kernel_rfl
theorem cf37 : cfn Try.prog 37 = true := by kernel_rfl
theorem cf50 : cfn Try.prog 50 = true := by kernel_rfl
theorem digest_ct {t : B8} {X : Asn} {v : Value} {ps : List Pt} {ao : Option Addr} {cap : Nat} (hS : Sv [X] v 1 fP ps ao cap := by assumption) (hP : ∀ p ∈ ps, RdP [X] p := by assumption) (hn : (joinP ps).length ≤ 400000000000 := by omega) (hk : ps.length ≤ 1000000000 := by omega) : Ct Try.prog 26 [.int .u8 ((t.toNat : Nat) : Int), v] [X] (fun _ : Unit => .tuple #[aU .u8 (tagD t (ps.map (·.l))), .int .i64 ((tagE t (ps.map (·.l)) : Nat) : Int)]) (fun _ => [X]) := by
  refine Ct_body (n := 21) Try.func26 rfl rfl rfl fun F w0 Q hret hnorm hp => ?_
  change WC _ _ _ _ _ _ _ (_ :: F)
  have htl := tagB_len t (ps.map (·.l))
  rw [← joinP_flat, List.length_map] at htl
  have hdl := dgM_len (tagB t (ps.map (·.l)))
  have htd := tagD_len t (ps.map (·.l))
  have hz32 : (List.replicate 32 0#8).length = 32 := rfl
  refine WC_sr fun K1 hK1 => ?_
  refine WL_ac (Ac_allocW (k := .u8) (w := 8) (m := 32) zr43) rfl rfl rfl ?_
  rintro _ _ ⟨b4, rfl, rfl⟩
  refine WL_rd (Rd_assign rfl) rfl rfl rfl ?_
  refine WL_end hK1 ?_
  refine WC_sr fun K2 hK2 => ?_
  refine WL_rd (Rd_move rfl) rfl rfl rfl ?_
  refine WL_rd (Rd_move rfl) rfl rfl rfl ?_
  refine WL_ac (Ac_call cf6 rfl (hs := bytes_ct (X := X) (t := t) (ps := ps) (hS := hS) (hP := hP))) rfl rfl rfl ?_
  rintro _ _ ⟨⟨a11, cap11⟩, rfl, hA⟩
  simp only [List.cons_append, List.nil_append] at hA
  replace hA := hA.symm
  subst hA
  refine WL_rd (Rd_move rfl) rfl rfl rfl ?_
  refine WL_rd (Rd_ext0 rfl) rfl rfl rfl ?_
  refine WL_rd (Rd_ext1 rfl) rfl rfl rfl ?_
  refine WL_rd (Rd_assign rfl) rfl rfl rfl ?_
  refine WL_rd (Rd_assign rfl) rfl rfl rfl ?_
  refine WL_end hK2 ?_
  refine WC_seq fun K3 hK3 => ?_
  refine WC_sr fun K4 hK4 => ?_
  refine WL_rd (Rd_move rfl) rfl rfl rfl ?_
  refine WL_rd (Rd_neqN (j := 0) rfl rfl) rfl rfl rfl ?_
  refine WL_end hK4 ?_
  refine WC_cond rfl (fun hc0 => ?_) (fun hc0 => ?_)
  · try simp only [decide_eq_true_eq, decide_eq_false_iff_not, Bool.not_eq_true', Bool.not_eq_false', Bool.not_eq_true, Bool.not_eq_false, Int.not_lt, Int.not_le, Nat.not_lt, Nat.not_le, Decidable.not_not, ne_eq] at hc0
    rw [tagD_no hc0] at hret
    refine WC_sr fun K5 hK5 => ?_
    refine WL_rd (Rd_aU (k := .u8) (l := (List.replicate 32 0#8)) (Rd_build pls43 rfl) (by rfl)) rfl rfl rfl ?_
    refine WL_rd (Rd_move rfl) rfl rfl rfl ?_
    refine WL_ac0 (Ac_storeW rfl rfl sz43) rfl rfl ?_
    rintro _ _ rfl
    refine WL_rd (Rd_assign rfl) rfl rfl rfl ?_
    refine WL_end hK5 ?_
    refine WC_ret ?_
    exact hret.goE () (Rs2cW rfl rfl rfl tk43) rfl
  · try simp only [decide_eq_true_eq, decide_eq_false_iff_not, Bool.not_eq_true', Bool.not_eq_false', Bool.not_eq_true, Bool.not_eq_false, Int.not_lt, Int.not_le, Nat.not_lt, Nat.not_le, Decidable.not_not, ne_eq] at hc0
    rw [tagD_ok hc0, hc0] at hret
    refine WC_skip ?_
    refine Ps_next hK3 ?_
    refine WC_sr fun K6 hK6 => ?_
    refine WL_rd (Rd_move rfl) rfl rfl rfl ?_
    refine WL_ac (Ac_bsL (f := fP) (zs := [.slice none 0 0]) (bs := [.slice none 0 0]) [(⟨(tagB t (ps.map (·.l))), a11.map (fun g => ⟨g, 0, none⟩), cap11⟩ : Pt)] encP ud22 zr23 sz23 rfl (by rw [Array.toList_map, Array.toList_range]; rfl) (by rfl) (by rfl) (by rfl) (by rfl)) rfl rfl rfl ?_
    rintro _ _ ⟨b19, rfl, rfl⟩
    refine WL_fact (fun w h => arr_facts (a := a11) (cap := cap11) (e := 1) (T := 5) (f := eU .u8 (w := 8)) (l := (tagB t (ps.map (·.l)))) (by repeat (first | with_reducible exact Has.here | with_reducible refine Has.there ?_)) h) (fun hSwf => ?_)
    have hSw : Sv [arr a11 cap11 1 5 (eU .u8) (tagB t (ps.map (·.l)))] (sl a11 (tagB t (ps.map (·.l))).length cap11) 1 (eU .u8 (w := 8)) (tagB t (ps.map (·.l))) (a11.map fun g => ⟨g, 0, none⟩) cap11 := Sv_own' (encU .u8 (w := 8)) hSwf.1 hSwf.2
    refine WL_ac (Ac_call cf50 rfl (hs := sum1_ct (X := arr a11 cap11 1 5 (eU .u8) (tagB t (ps.map (·.l)))) (l := (tagB t (ps.map (·.l)))) (hS := hSw))) rfl rfl rfl ?_
    rintro _ _ ⟨⟨⟩, rfl, hA⟩
    simp only [List.cons_append, List.nil_append] at hA
    replace hA := hA.symm
    subst hA
    refine WL_ac0 (Ac_storeW rfl rfl sz43) rfl rfl ?_
    rintro _ _ rfl
    refine WL_rd (Rd_assign rfl) rfl rfl rfl ?_
    refine WL_end hK6 ?_
    refine WC_ret ?_
    exact hret.goE () (Rs2cW rfl rfl rfl tk43) rfl

theorem made_ct {t : B8} {X : Asn} {v : Value} {ps : List Pt} {ao : Option Addr} {cap : Nat} (hS : Sv [X] v 1 fP ps ao cap := by assumption) (hP : ∀ p ∈ ps, RdP [X] p := by assumption) (hn : (joinP ps).length ≤ 400000000000 := by omega) (hk : ps.length ≤ 1000000000 := by omega) : Ct Try.prog 37 [.int .u8 ((t.toNat : Nat) : Int), v] [X] (fun _ : Unit => aU .u8 (tagD t (ps.map (·.l)))) (fun _ => [X]) := by
  refine Ct_body (n := 14) Try.func37 rfl rfl rfl fun F w0 Q hret hnorm hp => ?_
  change WC _ _ _ _ _ _ _ (_ :: F)
  have htd := tagD_len t (ps.map (·.l))
  refine WC_sr fun K1 hK1 => ?_
  refine WL_ac (Ac_allocW (k := .u8) (w := 8) (m := 32) zr43) rfl rfl rfl ?_
  rintro _ _ ⟨b4, rfl, rfl⟩
  refine WL_end hK1 ?_
  refine WC_sr fun K2 hK2 => ?_
  refine WL_rd (Rd_move rfl) rfl rfl rfl ?_
  refine WL_rd (Rd_move rfl) rfl rfl rfl ?_
  refine WL_ac (Ac_call cf26 rfl (hs := digest_ct (X := X) (t := t) (ps := ps) (hS := hS) (hP := hP))) rfl rfl rfl ?_
  rintro _ _ ⟨⟨⟩, rfl, hA⟩
  simp only [List.cons_append, List.nil_append] at hA
  replace hA := hA.symm
  subst hA
  refine WL_rd (Rd_move rfl) rfl rfl rfl ?_
  refine WL_rd (Rd_ext0 rfl) rfl rfl rfl ?_
  refine WL_rd (Rd_ext1 rfl) rfl rfl rfl ?_
  refine WL_ac (Ac_allocW (k := .u8) (w := 8) (m := 32) zr43) rfl rfl rfl ?_
  rintro _ _ ⟨b5, rfl, rfl⟩
  refine WL_ac0 (Ac_storeW rfl rfl sz43) rfl rfl ?_
  rintro _ _ rfl
  refine WL_rd (Rd_assign rfl) rfl rfl rfl ?_
  refine WL_end hK2 ?_
  refine WC_sr fun K3 hK3 => ?_
  refine WL_rd (Rd_loadW rfl tk43) rfl rfl rfl ?_
  refine WL_ac0 (Ac_storeW rfl rfl sz43) rfl rfl ?_
  rintro _ _ rfl
  refine WL_end hK3 ?_
  refine WC_ret ?_
  exact hret.go () (Rs1W rfl rfl tk43)

theorem padT_ct {x : B32}  : Ct Try.prog 13 [.int .u32 ((x.toNat : Nat) : Int)] [] (fun _ : Unit => aU .u8 (tagD 7#8 [big32 x])) (fun _ => []) := by
  refine Ct_body (n := 7) Try.func13 rfl rfl rfl fun F w0 Q hret hnorm hp => ?_
  change WC _ _ _ _ _ _ _ (F)
  have hb4 := big32_len x
  have htd := tagD_len 7#8 [big32 x]
  refine WC_sr fun K1 hK1 => ?_
  refine WL_ac (Ac_allocW (k := .u8) (w := 8) (m := 32) zr43) rfl rfl rfl ?_
  rintro _ _ ⟨b2, rfl, rfl⟩
  refine WL_end hK1 ?_
  refine WC_sr fun K2 hK2 => ?_
  refine WL_rd (Rd_move rfl) rfl rfl rfl ?_
  refine WL_ac (Ac_call cf38 rfl (hs := bigu32_ct (x := x))) rfl rfl rfl ?_
  rintro _ _ ⟨g4, rfl, hA⟩
  simp only [List.cons_append, List.nil_append] at hA
  replace hA := hA.symm
  subst hA
  refine WL_ac (Ac_bsL (f := fP) (zs := [.slice none 0 0]) (bs := [.slice none 0 0]) [(⟨(big32 x), some ⟨g4, 0, none⟩, 4⟩ : Pt)] encP ud22 zr23 sz23 rfl (by rw [Array.toList_map, Array.toList_range]; rfl) (by rfl) (by rfl) (by rfl) (by rfl)) rfl rfl rfl ?_
  rintro _ _ ⟨b5, rfl, rfl⟩
  have hp0 : RdP [arr (some g4) 4 1 5 (eU .u8 (w := 8)) (big32 x)] (⟨(big32 x), some ⟨g4, 0, none⟩, 4⟩ : Pt) := by have h := Sv_own' (a := some g4) (cap := 4) (T := 5) (encU .u8 (w := 8)) (l := (big32 x)) (by simp) (by rw [hb4]; exact Nat.le_refl _); exact h
  have hL : Sv [arr (some b5) 1 1 23 fP [(⟨(big32 x), some ⟨g4, 0, none⟩, 4⟩ : Pt)]] (sl (some b5) 1 1) 1 fP [(⟨(big32 x), some ⟨g4, 0, none⟩, 4⟩ : Pt)] (some ⟨b5, 0, none⟩) 1 := Sv_own' (a := some b5) (cap := 1) (T := 23) encP (l := [(⟨(big32 x), some ⟨g4, 0, none⟩, 4⟩ : Pt)]) (by simp) (Nat.le_refl 1)
  have hmp : ([(⟨(big32 x), some ⟨g4, 0, none⟩, 4⟩ : Pt)].map (·.l)) = [(big32 x)] := rfl
  have hjl : (joinP [(⟨(big32 x), some ⟨g4, 0, none⟩, 4⟩ : Pt)]).length = (big32 x).length := by simp [joinP]
  refine WL_ac (Ac_call cf37 rfl (hs := Ct.un0 (Xs := [arr (some b5) 1 1 23 fP [(⟨(big32 x), some ⟨g4, 0, none⟩, 4⟩ : Pt)], arr (some g4) 4 1 5 (eU .u8 (w := 8)) (big32 x)]) (made_ct (t := 7#8) (X := sep [arr (some b5) 1 1 23 fP [(⟨(big32 x), some ⟨g4, 0, none⟩, 4⟩ : Pt)], arr (some g4) 4 1 5 (eU .u8 (w := 8)) (big32 x)]) (ps := [(⟨(big32 x), some ⟨g4, 0, none⟩, 4⟩ : Pt)]) (hS := hL.pk (by repeat (first | with_reducible exact Has.here | with_reducible refine Has.there ?_))) (hP := List.forall_mem_cons.2 ⟨hp0.pk (by repeat (first | with_reducible exact Has.here | with_reducible refine Has.there ?_)), by simp⟩) (hn := by rw [hjl]; omega) (hk := by show 1 ≤ _; omega)))) rfl rfl rfl ?_
  rintro _ _ ⟨⟨⟩, rfl, hA⟩
  simp only [List.cons_append, List.nil_append] at hA
  replace hA := hA.symm
  subst hA
  rw [hmp]
  refine WL_ac0 (Ac_storeW rfl rfl sz43) rfl rfl ?_
  rintro _ _ rfl
  refine WL_end hK2 ?_
  refine WC_ret ?_
  exact hret.go () (Rs1W rfl rfl tk43)
end Go.Proofs.Ytlcafifjhilleaa
namespace Go.Proofs.Ytlcafifjhilleaa
open Go.RowKit Go.SL Go.ShM
set_option maxHeartbeats 1000000
set_option maxRecDepth 20000
set_option linter.all false
theorem cf13 : cfn Try.prog 13 = true := by kernel_rfl
theorem cf14 : cfn Try.prog 14 = true := by kernel_rfl
theorem tg7e : tagE 7#8 [[0#8, 0#8, 0#8, 7#8]] = 0 := by decide +kernel
theorem tg7_len : (tagB 7#8 [[0#8, 0#8, 0#8, 7#8]]).length = 34 := by decide +kernel
theorem tg7_7 : (tagB 7#8 [[0#8, 0#8, 0#8, 7#8]]).getD 7 0#8 = 14#8 := by decide +kernel
theorem tg7_8 : (tagB 7#8 [[0#8, 0#8, 0#8, 7#8]]).getD 8 0#8 = 115#8 := by decide +kernel
theorem tg7_33 : (tagB 7#8 [[0#8, 0#8, 0#8, 7#8]]).getD 33 0#8 = 7#8 := by decide +kernel
theorem tg7_d : tagD 7#8 [big32 7#32] = dgM (tagB 7#8 [[0#8, 0#8, 0#8, 7#8]]) := by rw [show big32 7#32 = [0#8, 0#8, 0#8, 7#8] from by decide]; exact tagD_ok tg7e

theorem tlives_ct   : Ct Try.prog 5 [] [] (fun _ : Unit => .bool true) (fun _ => []) := by
  refine Ct_body (n := 44) Try.func5 rfl rfl rfl fun F w0 Q hret hnorm hp => ?_
  change WC _ _ _ _ _ _ _ (F)
  have htl := tg7_len
  have hdl := dgM_len (tagB 7#8 [[0#8, 0#8, 0#8, 7#8]])
  have htd := tagD_len 7#8 [big32 7#32]
  have h4l : ([0#8, 0#8, 0#8, 7#8]).length = 4 := rfl
  refine WC_sr fun K1 hK1 => ?_
  refine WL_rd (Rd_assign rfl) rfl rfl rfl ?_
  refine WL_end hK1 ?_
  refine WC_sr fun K2 hK2 => ?_
  refine WL_ac (Ac_bsL (f := (eU .u8 (w := 8))) (zs := [.int .u8 0]) (bs := [.int .u8 0, .int .u8 0, .int .u8 0, .int .u8 0]) [0#8, 0#8, 0#8, 7#8] (encU .u8) ud23 zr5 sz5 rfl (by rw [Array.toList_map, Array.toList_range]; rfl) (by rfl) (by rfl) (by rfl) (by rfl)) rfl rfl rfl ?_
  rintro _ _ ⟨b4, rfl, rfl⟩
  refine WL_ac (Ac_bsL (f := fP) (zs := [.slice none 0 0]) (bs := [.slice none 0 0]) [(⟨[0#8, 0#8, 0#8, 7#8], some ⟨b4, 0, none⟩, 4⟩ : Pt)] encP ud22 zr23 sz23 rfl (by rw [Array.toList_map, Array.toList_range]; rfl) (by rfl) (by rfl) (by rfl) (by rfl)) rfl rfl rfl ?_
  rintro _ _ ⟨b5, rfl, rfl⟩
  have hp0 : RdP [arr (some b4) 4 1 5 (eU .u8 (w := 8)) [0#8, 0#8, 0#8, 7#8]] (⟨[0#8, 0#8, 0#8, 7#8], some ⟨b4, 0, none⟩, 4⟩ : Pt) := by have h := Sv_own' (a := some b4) (cap := 4) (T := 5) (encU .u8 (w := 8)) (l := [0#8, 0#8, 0#8, 7#8]) (by simp) (Nat.le_refl 4); exact h
  have hL : Sv [arr (some b5) 1 1 23 fP [(⟨[0#8, 0#8, 0#8, 7#8], some ⟨b4, 0, none⟩, 4⟩ : Pt)]] (sl (some b5) 1 1) 1 fP [(⟨[0#8, 0#8, 0#8, 7#8], some ⟨b4, 0, none⟩, 4⟩ : Pt)] (some ⟨b5, 0, none⟩) 1 := Sv_own' (a := some b5) (cap := 1) (T := 23) encP (l := [(⟨[0#8, 0#8, 0#8, 7#8], some ⟨b4, 0, none⟩, 4⟩ : Pt)]) (by simp) (Nat.le_refl 1)
  have hmp : ([(⟨[0#8, 0#8, 0#8, 7#8], some ⟨b4, 0, none⟩, 4⟩ : Pt)].map (·.l)) = [[0#8, 0#8, 0#8, 7#8]] := rfl
  have hjl : (joinP [(⟨[0#8, 0#8, 0#8, 7#8], some ⟨b4, 0, none⟩, 4⟩ : Pt)]).length = [0#8, 0#8, 0#8, 7#8].length := by simp [joinP]
  refine WL_ac (Ac_call cf6 rfl (hs := Ct.un0 (Xs := [arr (some b5) 1 1 23 fP [(⟨[0#8, 0#8, 0#8, 7#8], some ⟨b4, 0, none⟩, 4⟩ : Pt)], arr (some b4) 4 1 5 (eU .u8 (w := 8)) [0#8, 0#8, 0#8, 7#8]]) (bytes_ct (t := 7#8) (X := sep [arr (some b5) 1 1 23 fP [(⟨[0#8, 0#8, 0#8, 7#8], some ⟨b4, 0, none⟩, 4⟩ : Pt)], arr (some b4) 4 1 5 (eU .u8 (w := 8)) [0#8, 0#8, 0#8, 7#8]]) (ps := [(⟨[0#8, 0#8, 0#8, 7#8], some ⟨b4, 0, none⟩, 4⟩ : Pt)]) (hS := hL.pk (by repeat (first | with_reducible exact Has.here | with_reducible refine Has.there ?_))) (hP := List.forall_mem_cons.2 ⟨hp0.pk (by repeat (first | with_reducible exact Has.here | with_reducible refine Has.there ?_)), by simp⟩) (hn := by rw [hjl]; omega) (hk := by show 1 ≤ _; omega)))) rfl rfl rfl ?_
  rintro _ _ ⟨⟨a6, cap6⟩, rfl, hA⟩
  simp only [List.cons_append, List.nil_append] at hA
  replace hA := hA.symm
  subst hA
  rw [hmp]
  rw [tg7e]
  refine WL_some (a := a6) (by repeat (first | with_reducible exact Has.here | with_reducible refine Has.there ?_)) (by omega) (fun gb hgb hcp => ?_)
  subst hgb
  rw [tg7_len] at hcp
  refine WL_rd (Rd_move rfl) rfl rfl rfl ?_
  refine WL_rd (Rd_ext0 rfl) rfl rfl rfl ?_
  refine WL_rd (Rd_ext1 rfl) rfl rfl rfl ?_
  refine WL_rd (Rd_assign rfl) rfl rfl rfl ?_
  refine WL_rd (Rd_assign rfl) rfl rfl rfl ?_
  refine WL_end hK2 ?_
  refine WC_sr fun K3 hK3 => ?_
  refine WL_rd (Rd_move rfl) rfl rfl rfl ?_
  refine WL_rd (Rd_eqlN (i := 0) (j := 0) rfl rfl) rfl rfl rfl ?_
  refine WL_rd (Rd_move rfl) rfl rfl rfl ?_
  refine WL_rd (Rd_move rfl) rfl rfl rfl ?_
  refine WL_rd (Rd_len rfl rfl ud23) rfl rfl rfl ?_
  refine WL_rd (Rd_isT (Rd_eqlN (j := 34) rfl rfl)) rfl rfl rfl ?_
  refine WL_rd (Rd_pickT rfl rfl) rfl rfl rfl ?_
  refine WL_rd (Rd_move rfl) rfl rfl rfl ?_
  refine WL_rd (Rd_move rfl) rfl rfl rfl ?_
  refine WL_rd (Rd_index 7 rfl rfl ud23 sz5) rfl rfl rfl ?_
  refine WL_rd (Rd_loadU rfl tk5) rfl rfl rfl ?_
  refine WL_rd (Rd_isT (Rd_eqlU (a := (tagB 7#8 [[0#8, 0#8, 0#8, 7#8]]).getD 7 0#8) (b := 14#8) rfl rfl) (by rw [tg7_7]; rfl)) rfl rfl rfl ?_
  refine WL_rd (Rd_pickT rfl rfl) rfl rfl rfl ?_
  refine WL_rd (Rd_move rfl) rfl rfl rfl ?_
  refine WL_rd (Rd_move rfl) rfl rfl rfl ?_
  refine WL_rd (Rd_index 8 rfl rfl ud23 sz5) rfl rfl rfl ?_
  refine WL_rd (Rd_loadU rfl tk5) rfl rfl rfl ?_
  refine WL_rd (Rd_isT (Rd_eqlU (a := (tagB 7#8 [[0#8, 0#8, 0#8, 7#8]]).getD 8 0#8) (b := 115#8) rfl rfl) (by rw [tg7_8]; rfl)) rfl rfl rfl ?_
  refine WL_rd (Rd_pickT rfl rfl) rfl rfl rfl ?_
  refine WL_rd (Rd_move rfl) rfl rfl rfl ?_
  refine WL_rd (Rd_move rfl) rfl rfl rfl ?_
  refine WL_rd (Rd_index 33 rfl rfl ud23 sz5) rfl rfl rfl ?_
  refine WL_rd (Rd_loadU rfl tk5) rfl rfl rfl ?_
  refine WL_rd (Rd_isT (Rd_eqlU (a := (tagB 7#8 [[0#8, 0#8, 0#8, 7#8]]).getD 33 0#8) (b := 7#8) rfl rfl) (by rw [tg7_33]; rfl)) rfl rfl rfl ?_
  refine WL_rd (Rd_pickT rfl rfl) rfl rfl rfl ?_
  refine WL_rd (Rd_move rfl) rfl rfl rfl ?_
  refine WL_ac (Ac_call cf13 rfl (hs := padT_ct (x := 7#32))) rfl rfl rfl ?_
  rintro _ _ ⟨⟨⟩, rfl, hA⟩
  simp only [List.cons_append, List.nil_append] at hA
  replace hA := hA.symm
  subst hA
  refine WL_rd (Rd_move rfl) rfl rfl rfl ?_
  have hSw : Sv [arr (some gb) cap6 1 5 (eU .u8) (tagB 7#8 [[0#8, 0#8, 0#8, 7#8]])] (sl (some gb) (tagB 7#8 [[0#8, 0#8, 0#8, 7#8]]).length cap6) 1 (eU .u8 (w := 8)) (tagB 7#8 [[0#8, 0#8, 0#8, 7#8]]) (some ⟨gb, 0, none⟩) cap6 := Sv_own' (a := some gb) (encU .u8 (w := 8)) (by simp) (by rw [tg7_len]; exact hcp)
  refine WL_ac (Ac_call cf14 rfl (hs := sumR_ct (X := arr (some gb) cap6 1 5 (eU .u8) (tagB 7#8 [[0#8, 0#8, 0#8, 7#8]])) (l := (tagB 7#8 [[0#8, 0#8, 0#8, 7#8]])) (hS := hSw))) rfl rfl rfl ?_
  rintro _ _ ⟨⟨⟩, rfl, hA⟩
  simp only [List.cons_append, List.nil_append] at hA
  replace hA := hA.symm
  subst hA
  refine WL_rd (Rd_isT (Rd_eqW rfl rfl ais43) (by rw [tg7_d]; simp)) rfl rfl rfl ?_
  refine WL_rd (Rd_pickT rfl rfl) rfl rfl rfl ?_
  refine WL_rd (Rd_move rfl) rfl rfl rfl ?_
  refine WL_ac (Ac_call cf15 rfl (hs := word_ct (t := 9#8))) rfl rfl rfl ?_
  rintro _ _ ⟨⟨⟩, rfl, hA⟩
  simp only [List.cons_append, List.nil_append] at hA
  replace hA := hA.symm
  subst hA
  refine WL_rd (Rd_isT (Rd_streq rfl rfl) (by decide +kernel)) rfl rfl rfl ?_
  refine WL_rd (Rd_pickT rfl rfl) rfl rfl rfl ?_
  refine WL_rd (Rd_assign rfl) rfl rfl rfl ?_
  refine WL_end hK3 ?_
  refine WC_ret ?_
  exact hret.go () (Rs1 rfl rfl)
end Go.Proofs.Ytlcafifjhilleaa
