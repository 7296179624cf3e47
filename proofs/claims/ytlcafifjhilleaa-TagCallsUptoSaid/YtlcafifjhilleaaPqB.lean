/-
  Contracts of functions that the claim reaches, or the logic and the plain laws that they rest on, or the row over them. (Conditions: none beyond the statement.)
-/
import Derived.Test.YtlcafifjhilleaaPqA
import Derived.Test.YtlcafifjhilleaaShA
import Derived.Test.YtlcafifjhilleaaLibB
set_option linter.all false
namespace Go.Proofs.Ytlcafifjhilleaa
open Go.RowKit Go.SL Go.ShM
set_option maxHeartbeats 1000000
set_option maxRecDepth 20000
set_option linter.all false
theorem cf88 : cfn Try.prog 88 = true := by kernel_rfl
theorem cf89 : cfn Try.prog 89 = true := by kernel_rfl
theorem fo119_0 : fo Try.prog 119 0 = some (0, 4) := by kernel_rfl
theorem fo119_1 : fo Try.prog 119 1 = some (1, 117) := by kernel_rfl
theorem fo119_2 : fo Try.prog 119 2 = some (9, 23) := by kernel_rfl
theorem fo119_3 : fo Try.prog 119 3 = some (10, 3) := by kernel_rfl
theorem sz3 : sz Try.prog 3 = some 1 := by kernel_rfl
theorem sz23 : sz Try.prog 23 = some 1 := by kernel_rfl
theorem tk3 : tk Try.prog 3 = some none := by kernel_rfl
theorem tk4 : tk Try.prog 4 = some none := by kernel_rfl
theorem tk23 : tk Try.prog 23 = some none := by kernel_rfl
theorem ud111 : Try.prog.underlying 111 = some (.pointer 119) := by kernel_rfl
theorem hok_ct {b : Nat} {hs : List B32} {r s : Value}  : Ct Try.prog 88 [.pointer (some ⟨b, 0, none⟩)] [cl b 119 (hsh hs r s)] (fun _ : Unit => .bool true) (fun _ => [cl b 119 (hsh hs r s)]) := by
  refine Ct_body (n := 11) Try.func88 rfl rfl rfl fun F w0 Q hret hnorm hp => ?_
  change WC _ _ _ _ _ _ _ (_ :: F)
  refine WC_sr fun K1 hK1 => ?_
  refine WL_rd (Rd_assign rfl) rfl rfl rfl ?_
  refine WL_end hK1 ?_
  refine WC_sr fun K2 hK2 => ?_
  refine WL_rd (Rd_move rfl) rfl rfl rfl ?_
  refine WL_rd (Rd_pne rfl rfl ud111) rfl rfl rfl ?_
  refine WL_rd (Rd_move rfl) rfl rfl rfl ?_
  refine WL_rd (Rd_move rfl) rfl rfl rfl ?_
  refine WL_rd (Rd_nilCheck rfl) rfl rfl rfl ?_
  refine WL_rd (Rd_fieldAddr rfl fo119_0) rfl rfl rfl ?_
  refine WL_rd (Rd_load rfl tk4 (v := .bool true)) rfl rfl rfl ?_
  refine WL_rd (Rd_pickT rfl rfl) rfl rfl rfl ?_
  refine WL_rd (Rd_assign rfl) rfl rfl rfl ?_
  refine WL_end hK2 ?_
  refine WC_ret ?_
  exact hret.go () (Rs1 rfl rfl)

theorem write0_ct {X : Asn} {v : Value} {l : List B8} {ao : Option Addr} {cap2 b : Nat} {M : List B8} {a : Option Nat} {cap : Nat} (hS : Sv [X] v 1 (eU .u8) l ao cap2 := by assumption) (hl : l.length ≤ 900000000000 := by omega) (hM9 : M.length + l.length ≤ 1152921504606846976 := by omega) (h0 : M.length % 64 = 0) : Ct Try.prog 80 [.pointer (some ⟨b, 0, none⟩), v] [cl b 119 (hsh (hM M) (sl a (rM M).length cap) (.int .i64 ((M.length : Nat) : Int))), arr a cap 1 5 (eU .u8) (rM M), X] (fun g : Option Nat × Nat => .int .i64 0) (fun g => [cl b 119 (hsh (hM (M ++ l)) (sl g.1 (rM (M ++ l)).length g.2) (.int .i64 (((M ++ l).length : Nat) : Int))), arr g.1 g.2 1 5 (eU .u8) (rM (M ++ l)), X]) := by
  refine Ct_body (n := 98) Try.func80 rfl rfl rfl fun F w0 Q hret hnorm hp => ?_
  change WC _ _ _ _ _ _ _ (_ :: _ :: _ :: F)
  have hr0 : (rM M).length = 0 := by rw [rM_len]; exact h0
  refine WC_sr fun K1 hK1 => ?_
  refine WL_rd (Rd_assign rfl) rfl rfl rfl ?_
  refine WL_end hK1 ?_
  refine WC_seq fun K2 hK2 => ?_
  refine WC_sr fun K3 hK3 => ?_
  refine WL_rd (Rd_move rfl) rfl rfl rfl ?_
  refine WL_ac (Ac_call cf88 rfl (hs := hok_ct)) rfl rfl rfl ?_
  rintro _ _ ⟨⟨⟩, rfl, hA⟩
  simp only [List.cons_append, List.nil_append] at hA
  replace hA := hA.symm
  subst hA
  refine WL_rd (Rd_not rfl) rfl rfl rfl ?_
  refine WL_end hK3 ?_
  refine WC_condF rfl ?_
  refine WC_skip ?_
  refine Ps_next hK2 ?_
  refine WC_sr fun K4 hK4 => ?_
  refine WL_rd (Rd_move rfl) rfl rfl rfl ?_
  refine WL_rd (Rd_nilCheck rfl) rfl rfl rfl ?_
  refine WL_rd (Rd_fieldAddr rfl fo119_3) rfl rfl rfl ?_
  refine WL_rd (Rd_load rfl tk3) rfl rfl rfl ?_
  refine WL_rd (Rd_move rfl) rfl rfl rfl ?_
  refine WL_rd (Rd_len_sv rfl rfl ud23) rfl rfl rfl ?_
  refine WL_rd (Rd_addN rfl rfl) rfl rfl rfl ?_
  refine WL_rd (Rd_nilCheck rfl) rfl rfl rfl ?_
  refine WL_rd (Rd_fieldAddr rfl fo119_3) rfl rfl rfl ?_
  refine WL_ac0 (Ac_hsize rfl rfl sz3) rfl rfl ?_
  rintro _ _ rfl
  refine WL_end hK4 ?_
  refine WC_seq fun K5 hK5 => ?_
  refine WC_sr fun K6 hK6 => ?_
  refine WL_rd (Rd_move rfl) rfl rfl rfl ?_
  refine WL_rd (Rd_nilCheck rfl) rfl rfl rfl ?_
  refine WL_rd (Rd_fieldAddr rfl fo119_2) rfl rfl rfl ?_
  refine WL_rd (Rd_load rfl tk23) rfl rfl rfl ?_
  refine WL_rd (Rd_len rfl rfl ud23) rfl rfl rfl ?_
  refine WL_rd (Rd_assign rfl) rfl rfl rfl ?_
  refine WL_end hK6 ?_
  refine WC_sr fun K7 hK7 => ?_
  refine WL_rd (Rd_move rfl) rfl rfl rfl ?_
  refine WL_rd (Rd_isF (Rd_gtrN (j := 0) rfl rfl)) rfl rfl rfl ?_
  refine WL_end hK7 ?_
  refine WC_condF rfl ?_
  refine WC_skip ?_
  refine Ps_next hK5 ?_
  refine WC_seq fun K8 hK8 => ?_
  refine WC_block ?_
  rw [← hM_at M l]
  refine WC_loop (σ := Nat × Value × (Option Addr) × Nat) (fun ⟨c, v', ao', cap'⟩ => [(0, .pointer (some ⟨b, 0, none⟩)), (1, v'), (4, .int .i64 0)]) (fun ⟨c, v', ao', cap'⟩ => cl b 119 (hsh (blkI (M ++ l) c) (sl a (rM M).length cap) (.int .i64 ((M.length + l.length : Nat) : Int))) :: arr a cap 1 5 (eU .u8) (rM M) :: X :: F) (fun ⟨c, v', ao', cap'⟩ => M.length ≤ 64 * c ∧ 64 * c ≤ M.length + l.length ∧ Sv [X] v' 1 (eU .u8) (l.drop (64 * c - M.length)) ao' cap') (fun ⟨c, v', ao', cap'⟩ => M.length + l.length - 64 * c) ⟨M.length / 64, v, ao, cap2⟩ ?_ ?_ ?_ ?_
  · exact ⟨by omega, by omega, by rw [show 64 * (M.length / 64) - M.length = 0 from by omega, List.drop_zero]; exact hS⟩
  · exact (Wk.cons (by first | rfl | (simp only [List.length_append, List.length_cons, List.length_nil, List.length_replicate, Nat.zero_add]; rfl) | (simp; done)) (Wk.cons (by first | rfl | (simp only [List.length_append, List.length_cons, List.length_nil, List.length_replicate, Nat.zero_add]; rfl) | (simp; done)) (Wk.cons (by first | rfl | (simp only [List.length_append, List.length_cons, List.length_nil, List.length_replicate, Nat.zero_add]; rfl) | (simp; done)) Wk.nil)))
  · repeat (first | with_reducible exact Sub.refl | with_reducible exact Sub.nil | with_reducible refine Sub.cons (by repeat (first | with_reducible exact Ext.here | with_reducible apply Ext.there)) ?_ | with_reducible refine Sub.tail ?_)
  · rintro ⟨c, v', ao', cap'⟩ ⟨hc1', hc2', hS'⟩ K9 hK9
    dsimp only at *
    have hdl : (l.drop (64 * c - M.length)).length = M.length + l.length - 64 * c := by rw [List.length_drop]; omega
    have hbl := blkI_len (M ++ l) c
    have hbl2 := blkI_len (M ++ l) (c + 1)
    have hll : (M ++ l).length = M.length + l.length := List.length_append
    refine WC_seq fun K10 hK10 => ?_
    refine WC_sr fun K11 hK11 => ?_
    refine WL_rd (Rd_move rfl) rfl rfl rfl ?_
    refine WL_rd (Rd_len_sv rfl rfl ud23) rfl rfl rfl ?_
    refine WL_rd (Rd_geqN (j := 64) rfl rfl) rfl rfl rfl ?_
    refine WL_end hK11 ?_
    refine WC_cond rfl (fun hc3 => ?_) (fun hc3 => ?_)
    · try simp only [decide_eq_true_eq, decide_eq_false_iff_not, Bool.not_eq_true', Bool.not_eq_false', Bool.not_eq_true, Bool.not_eq_false, Int.not_lt, Int.not_le, Nat.not_lt, Nat.not_le, Decidable.not_not, ne_eq] at hc3
      have hb64 : ((l.drop (64 * c - M.length)).take 64).length = 64 := by rw [List.length_take]; omega
      refine WC_skip ?_
      refine Ps_next hK10 ?_
      refine WC_block ?_
      refine WC_seq fun K12 hK12 => ?_
      refine WC_draw mix [cl b 119 (hsh (blkI (M ++ l) c) (sl a (rM M).length cap) (.int .i64 ((M.length + l.length : Nat) : Int))), X] (fun i => ([2, 2, 2, 2, 2, 2, 2, 2, 1, 2, 2, 0] : List Nat).getD i 0) ?_
      refine WJ_takeP 0 rfl (by kernel_rfl) (Rd_move rfl) rfl rfl rfl (hp _ _) ?_
      refine WJ_takeP 1 rfl (by kernel_rfl) (Rd_move rfl) rfl rfl rfl (hp _ _) ?_
      refine WJ_takeP 2 rfl (by kernel_rfl) (Rd_nilCheck rfl) rfl rfl rfl (hp _ _) ?_
      refine WJ_takeP 3 rfl (by kernel_rfl) (Rd_fieldAddr rfl fo119_1) rfl rfl rfl (hp _ _) ?_
      refine WJ_tk 4 (Rd_hload rfl tk117) hp ?_ rfl (by kernel_rfl) rfl rfl rfl
      refine WJ_takeP 5 rfl (by kernel_rfl) (Rd_move rfl) rfl rfl rfl (hp _ _) ?_
      refine WJ_tk 6 (Rd_s2a rfl ud80) hp ?_ rfl (by kernel_rfl) rfl rfl rfl
      refine WJ_tk 7 (Rd_loadW_sv rfl tk80) hp ?_ rfl (by kernel_rfl) rfl rfl rfl
      refine WJ_all (rs := [8]) (by kernel_rfl) rfl ?_
      refine WI_one ?_
      refine WI_ac rfl (Ac_call cf89 rfl (hs := mix_ct)) rfl rfl rfl rfl ?_
      rintro _ _ ⟨⟨⟩, rfl, hA⟩
      simp only [List.cons_append, List.nil_append] at hA
      replace hA := hA.symm
      subst hA
      rw [left_blk (M := M) (l := l) (c := c) hc1' (by omega), blkI_succ]
      refine ⟨(fun _ => (by repeat (first | with_reducible exact Sub.refl | with_reducible exact Sub.nil | with_reducible refine Sub.cons (by repeat (first | with_reducible exact Ext.here | with_reducible apply Ext.there)) ?_ | with_reducible refine Sub.tail ?_))), ?_⟩
      refine WJ_takeP 9 rfl (by kernel_rfl) (Rd_nilCheck rfl) rfl rfl rfl (hp _ _) ?_
      refine WJ_takeP 10 rfl (by kernel_rfl) (Rd_fieldAddr rfl fo119_1) rfl rfl rfl (hp _ _) ?_
      refine WJ_all (rs := [11]) (by kernel_rfl) rfl ?_
      refine WI_one ?_
      refine WI_ac0 rfl (Ac_hstore rfl rfl sz117) rfl rfl rfl ?_
      rintro _ _ rfl
      refine ⟨(fun h => by cases h), ?_⟩
      refine WJ_done (by kernel_rfl) ?_
      refine Ps_next hK12 ?_
      refine WC_region ?_
      refine WL_rd (Rd_move rfl) rfl rfl rfl ?_
      refine WL_rd (Rd_slice_sv 64 _ rfl ⟨_, rfl⟩ rfl ud23 sz5) rfl rfl rfl ?_
      have hS2 : Sv [X] (.slice (sao ao' 64 1 cap') ((l.drop (64 * c - M.length)).length - 64) (cap' - 64)) 1 (eU .u8) (l.drop (64 * (c + 1) - M.length)) (sao ao' 64 1 cap') (cap' - 64) := by have h := hS'.sub (lo := 64) (hi := (l.drop (64 * c - M.length)).length) hc3 (Nat.le_refl _); rw [List.take_length, List.drop_drop, show 64 * c - M.length + 64 = 64 * (c + 1) - M.length from by omega] at h; exact h
      refine WL_rd (Rd_assign rfl) rfl rfl rfl ?_
      refine WL_nil ?_
      refine Ps_wk ((Wk.cons (by first | rfl | (simp only [List.length_append, List.length_cons, List.length_nil, List.length_replicate, Nat.zero_add]; rfl) | (simp; done)) (Wk.cons (by first | rfl | (simp only [List.length_append, List.length_cons, List.length_nil, List.length_replicate, Nat.zero_add]; rfl) | (simp; done)) (Wk.cons (by first | rfl | (simp only [List.length_append, List.length_cons, List.length_nil, List.length_replicate, Nat.zero_add]; rfl) | (simp; done)) Wk.nil)))) (by first | with_reducible exact Sub.refl | ((try dsimp only); repeat (first | with_reducible exact Sub.refl | with_reducible exact Sub.nil | with_reducible refine Sub.cons (by repeat (first | with_reducible exact Ext.here | with_reducible apply Ext.there)) ?_ | with_reducible refine Sub.tail ?_))) (hK9 ⟨c + 1, _, sao ao' 64 1 cap', cap' - 64⟩ (⟨by dsimp only; omega, by dsimp only; omega, hS2⟩) (by dsimp only; omega))
    · try simp only [decide_eq_true_eq, decide_eq_false_iff_not, Bool.not_eq_true', Bool.not_eq_false', Bool.not_eq_true, Bool.not_eq_false, Int.not_lt, Int.not_le, Nat.not_lt, Nat.not_le, Decidable.not_not, ne_eq] at hc3
      obtain rfl : c = (M ++ l).length / 64 := by omega
      have happ : rM M ++ l.drop (64 * ((M ++ l).length / 64) - M.length) = rM (M ++ l) := by rw [List.eq_nil_of_length_eq_zero hr0, List.nil_append]; exact left_end hc1'
      have hlen : (rM M).length + (l.drop (64 * ((M ++ l).length / 64) - M.length)).length = (rM (M ++ l)).length := by have h := @List.length_append _ (rM M) (l.drop (64 * ((M ++ l).length / 64) - M.length)); rw [happ] at h; exact h.symm
      rw [show blkI (M ++ l) ((M ++ l).length / 64) = hM (M ++ l) from rfl]
      rw [← List.length_append]
      refine WC_exit ?_
      refine Ps_next hK8 ?_
      refine WC_sr fun K13 hK13 => ?_
      refine WL_rd (Rd_move rfl) rfl rfl rfl ?_
      refine WL_rd (Rd_move rfl) rfl rfl rfl ?_
      refine WL_rd (Rd_nilCheck rfl) rfl rfl rfl ?_
      refine WL_rd (Rd_fieldAddr rfl fo119_2) rfl rfl rfl ?_
      refine WL_rd (Rd_load rfl tk23) rfl rfl rfl ?_
      refine WL_rd (Rd_move rfl) rfl rfl rfl ?_
      refine WL_ac (Ac_appendS (f := (eU .u8 (w := 8))) (encU .u8) rfl rfl ud23 ud23 el5) rfl rfl rfl ?_
      rintro _ _ ⟨a95, cap95, rfl, rfl⟩
      rw [hlen, happ]
      refine WL_rd (Rd_nilCheck rfl) rfl rfl rfl ?_
      refine WL_rd (Rd_fieldAddr rfl fo119_2) rfl rfl rfl ?_
      refine WL_ac0 (Ac_hrest rfl rfl sz23) rfl rfl ?_
      rintro _ _ rfl
      refine WL_end hK13 ?_
      refine WC_sr fun K14 hK14 => ?_
      refine WL_rd (Rd_assign rfl) rfl rfl rfl ?_
      refine WL_end hK14 ?_
      refine WC_ret ?_
      exact hret.go (a95, cap95) (Rs1 rfl rfl)
end Go.Proofs.Ytlcafifjhilleaa
namespace Go.Proofs.Ytlcafifjhilleaa
open Go.RowKit Go.SL Go.ShM
set_option maxHeartbeats 1000000
set_option maxRecDepth 20000
set_option linter.all false

theorem writeN_ct {X : Asn} {v : Value} {l : List B8} {ao : Option Addr} {cap2 b : Nat} {M : List B8} {a : Option Nat} {cap : Nat} (hS : Sv [X] v 1 (eU .u8) l ao cap2 := by assumption) (hl : l.length ≤ 900000000000 := by omega) (hM9 : M.length + l.length ≤ 1152921504606846976 := by omega) (h0 : M.length % 64 ≠ 0) : Ct Try.prog 80 [.pointer (some ⟨b, 0, none⟩), v] [cl b 119 (hsh (hM M) (sl a (rM M).length cap) (.int .i64 ((M.length : Nat) : Int))), arr a cap 1 5 (eU .u8) (rM M), X] (fun g : Option Nat × Nat => .int .i64 0) (fun g => [cl b 119 (hsh (hM (M ++ l)) (sl g.1 (rM (M ++ l)).length g.2) (.int .i64 (((M ++ l).length : Nat) : Int))), arr g.1 g.2 1 5 (eU .u8) (rM (M ++ l)), X]) := by
  refine Ct_body (n := 98) Try.func80 rfl rfl rfl fun F w0 Q hret hnorm hp => ?_
  change WC _ _ _ _ _ _ _ (_ :: _ :: _ :: F)
  have hr0 : (rM M).length = M.length % 64 := rM_len M
  have hhl := hM_len M
  refine WC_sr fun K1 hK1 => ?_
  refine WL_rd (Rd_assign rfl) rfl rfl rfl ?_
  refine WL_end hK1 ?_
  refine WC_seq fun K2 hK2 => ?_
  refine WC_sr fun K3 hK3 => ?_
  refine WL_rd (Rd_move rfl) rfl rfl rfl ?_
  refine WL_ac (Ac_call cf88 rfl (hs := hok_ct)) rfl rfl rfl ?_
  rintro _ _ ⟨⟨⟩, rfl, hA⟩
  simp only [List.cons_append, List.nil_append] at hA
  replace hA := hA.symm
  subst hA
  refine WL_rd (Rd_not rfl) rfl rfl rfl ?_
  refine WL_end hK3 ?_
  refine WC_condF rfl ?_
  refine WC_skip ?_
  refine Ps_next hK2 ?_
  refine WC_sr fun K4 hK4 => ?_
  refine WL_rd (Rd_move rfl) rfl rfl rfl ?_
  refine WL_rd (Rd_nilCheck rfl) rfl rfl rfl ?_
  refine WL_rd (Rd_fieldAddr rfl fo119_3) rfl rfl rfl ?_
  refine WL_rd (Rd_load rfl tk3) rfl rfl rfl ?_
  refine WL_rd (Rd_move rfl) rfl rfl rfl ?_
  refine WL_rd (Rd_len_sv rfl rfl ud23) rfl rfl rfl ?_
  refine WL_rd (Rd_addN rfl rfl) rfl rfl rfl ?_
  refine WL_rd (Rd_nilCheck rfl) rfl rfl rfl ?_
  refine WL_rd (Rd_fieldAddr rfl fo119_3) rfl rfl rfl ?_
  refine WL_ac0 (Ac_hsize rfl rfl sz3) rfl rfl ?_
  rintro _ _ rfl
  refine WL_end hK4 ?_
  refine WC_seq fun K5 hK5 => ?_
  refine WC_sr fun K6 hK6 => ?_
  refine WL_rd (Rd_move rfl) rfl rfl rfl ?_
  refine WL_rd (Rd_nilCheck rfl) rfl rfl rfl ?_
  refine WL_rd (Rd_fieldAddr rfl fo119_2) rfl rfl rfl ?_
  refine WL_rd (Rd_load rfl tk23) rfl rfl rfl ?_
  refine WL_rd (Rd_len rfl rfl ud23) rfl rfl rfl ?_
  refine WL_rd (Rd_assign rfl) rfl rfl rfl ?_
  refine WL_end hK6 ?_
  refine WC_sr fun K7 hK7 => ?_
  refine WL_rd (Rd_move rfl) rfl rfl rfl ?_
  refine WL_rd (Rd_isT (Rd_gtrN (j := 0) rfl rfl)) rfl rfl rfl ?_
  refine WL_end hK7 ?_
  refine WC_condT rfl ?_
  refine WC_sr fun K8 hK8 => ?_
  refine WL_rd (Rd_move rfl) rfl rfl rfl ?_
  refine WL_rd (Rd_subN (i := 64) rfl rfl) rfl rfl rfl ?_
  refine WL_rd (Rd_move rfl) rfl rfl rfl ?_
  refine WL_rd (Rd_len_sv rfl rfl ud23) rfl rfl rfl ?_
  refine WL_rd (Rd_min rfl rfl) rfl rfl rfl ?_
  refine WL_rd (Rd_assign rfl) rfl rfl rfl ?_
  refine WL_end hK8 ?_
  refine WC_seq fun K9 hK9 => ?_
  refine WC_drawA mix (fun i => ([2, 2, 2, 2, 2, 2, 2, 2, 0, 2, 2, 0] : List Nat).getD i 0) ?_
  refine WJ_takeP 0 rfl (by kernel_rfl) (Rd_move rfl) rfl rfl rfl (hp _ _) ?_
  refine WJ_takeP 1 rfl (by kernel_rfl) (Rd_move rfl) rfl rfl rfl (hp _ _) ?_
  refine WJ_takeP 2 rfl (by kernel_rfl) (Rd_nilCheck rfl) rfl rfl rfl (hp _ _) ?_
  refine WJ_takeP 3 rfl (by kernel_rfl) (Rd_fieldAddr rfl fo119_2) rfl rfl rfl (hp _ _) ?_
  refine WJ_tk 4 (Rd_load rfl tk23) hp ?_ rfl (by kernel_rfl) rfl rfl rfl
  refine WJ_takeP 5 rfl (by kernel_rfl) (Rd_move rfl) rfl rfl rfl (hp _ _) ?_
  refine WJ_takeP 6 rfl (by kernel_rfl) (Rd_move rfl) rfl rfl rfl (hp _ _) ?_
  refine WJ_takeP 7 rfl (by kernel_rfl) (Rd_slice_sv 0 (min (64 - (rM M).length) l.length) rfl rfl ⟨_, rfl⟩ ud23 sz5) rfl rfl rfl (hp _ _) ?_
  refine WJ_all (rs := [8]) (by kernel_rfl) rfl ?_
  refine WI_one ?_
  have hSk : Sv [X] (.slice (sao ao 0 1 cap2) ((min (64 - (rM M).length) l.length) - 0) (cap2 - 0)) 1 (eU .u8 (w := 8)) (l.take (min (64 - (rM M).length) l.length)) (sao ao 0 1 cap2) (cap2 - 0) := by have h := hS.sub (lo := 0) (hi := (min (64 - (rM M).length) l.length)) (Nat.zero_le _) (by omega); rw [List.drop_zero] at h; exact h
  have hkl : (l.take (min (64 - (rM M).length) l.length)).length = (min (64 - (rM M).length) l.length) := by rw [List.length_take]; omega
  refine WI_ac rfl (Ac_appendS (f := (eU .u8 (w := 8))) (encU .u8) rfl rfl ud23 ud23 el5) rfl rfl rfl rfl ?_
  rintro _ _ ⟨a39, cap39, rfl, rfl⟩
  refine ⟨(fun h => by cases h), ?_⟩
  refine WJ_takeP 9 rfl (by kernel_rfl) (Rd_nilCheck rfl) rfl rfl rfl (hp _ _) ?_
  refine WJ_takeP 10 rfl (by kernel_rfl) (Rd_fieldAddr rfl fo119_2) rfl rfl rfl (hp _ _) ?_
  refine WJ_all (rs := [11]) (by kernel_rfl) rfl ?_
  refine WI_one ?_
  refine WI_ac0 rfl (Ac_hrest rfl rfl sz23) rfl rfl rfl ?_
  rintro _ _ rfl
  refine ⟨(fun h => by cases h), ?_⟩
  refine WJ_done (by kernel_rfl) ?_
  refine Ps_next hK9 ?_
  refine WC_sr fun K10 hK10 => ?_
  refine WL_rd (Rd_move rfl) rfl rfl rfl ?_
  refine WL_rd (Rd_move rfl) rfl rfl rfl ?_
  refine WL_rd (Rd_slice_sv (min (64 - (rM M).length) l.length) _ rfl ⟨_, rfl⟩ rfl ud23 sz5) rfl rfl rfl ?_
  refine WL_rd (Rd_assign rfl) rfl rfl rfl ?_
  refine WL_end hK10 ?_
  refine WC_seq fun K11 hK11 => ?_
  refine WC_sr fun K12 hK12 => ?_
  refine WL_rd (Rd_move rfl) rfl rfl rfl ?_
  refine WL_rd (Rd_nilCheck rfl) rfl rfl rfl ?_
  refine WL_rd (Rd_fieldAddr rfl fo119_2) rfl rfl rfl ?_
  refine WL_rd (Rd_load rfl tk23) rfl rfl rfl ?_
  refine WL_rd (Rd_len rfl rfl ud23) rfl rfl rfl ?_
  refine WL_rd (Rd_lssN (j := 64) rfl rfl) rfl rfl rfl ?_
  refine WL_end hK12 ?_
  refine WC_cond rfl (fun hc2 => ?_) (fun hc2 => ?_)
  · try simp only [decide_eq_true_eq, decide_eq_false_iff_not, Bool.not_eq_true', Bool.not_eq_false', Bool.not_eq_true, Bool.not_eq_false, Int.not_lt, Int.not_le, Nat.not_lt, Nat.not_le, Decidable.not_not, ne_eq] at hc2
    have htl : l.take (min (64 - (rM M).length) l.length) = l := List.take_of_length_le (by omega)
    have hfw := hM_few (M := M) (l := l) (by omega)
    rw [htl]
    rw [hfw.1, hfw.2] at hret
    simp only [List.length_append] at hret
    refine WC_sr fun K13 hK13 => ?_
    refine WL_rd (Rd_assign rfl) rfl rfl rfl ?_
    refine WL_end hK13 ?_
    refine WC_ret ?_
    first | exact hret.go (a95, cap95) (Rs1 rfl rfl) | exact hret.go (a39, cap39) (Rs1 rfl rfl)
  · try simp only [decide_eq_true_eq, decide_eq_false_iff_not, Bool.not_eq_true', Bool.not_eq_false', Bool.not_eq_true, Bool.not_eq_false, Int.not_lt, Int.not_le, Nat.not_lt, Nat.not_le, Decidable.not_not, ne_eq] at hc2
    have hK : (min (64 - (rM M).length) l.length) = 64 - M.length % 64 := by omega
    refine WC_some (a := a39) (by repeat (first | with_reducible exact Has.here | with_reducible refine Has.there ?_)) (by rw [List.length_append]; omega) (fun gb hgb hcp => ?_)
    subst hgb
    have hSr : Sv [arr (some gb) cap39 1 5 (eU .u8) (rM M ++ l.take (min (64 - (rM M).length) l.length))] (sl (some gb) ((rM M).length + (l.take (min (64 - (rM M).length) l.length)).length) cap39) 1 (eU .u8 (w := 8)) (rM M ++ l.take (min (64 - (rM M).length) l.length)) (some ⟨gb, 0, none⟩) cap39 := by have h := Sv_own' (a := some gb) (cap := cap39) (T := 5) (encU .u8 (w := 8)) (l := (rM M ++ l.take (min (64 - (rM M).length) l.length))) (by simp) hcp; rw [List.length_append] at h; exact h
    have hrl64 : (rM M ++ l.take (min (64 - (rM M).length) l.length)).length = 64 := by rw [List.length_append]; omega
    have hb64 : ((rM M ++ l.take (min (64 - (rM M).length) l.length)).take 64).length = 64 := by rw [List.length_take]; omega
    have hblk : (rM M ++ l.take (min (64 - (rM M).length) l.length)).take 64 = blk (M ++ l) (M.length / 64) := by rw [List.take_of_length_le (by omega), hK]; exact rM_fill (by omega)
    have hmx : mixM (hM M) ((rM M ++ l.take (min (64 - (rM M).length) l.length)).take 64) = blkI (M ++ l) (M.length / 64 + 1) := by rw [hblk, ← hM_at M l, blkI_succ]
    have hbn := blkI_len (M ++ l) (M.length / 64 + 1)
    have hS0 : Sv [X] (.slice (sao ao (min (64 - (rM M).length) l.length) 1 cap2) (l.length - (min (64 - (rM M).length) l.length)) (cap2 - (min (64 - (rM M).length) l.length))) 1 (eU .u8 (w := 8)) (l.drop (64 * (M.length / 64 + 1) - M.length)) (sao ao (min (64 - (rM M).length) l.length) 1 cap2) (cap2 - (min (64 - (rM M).length) l.length)) := by have h := hS.sub (lo := (min (64 - (rM M).length) l.length)) (hi := l.length) (by omega) (Nat.le_refl _); rw [List.take_length, show (l.drop (min (64 - (rM M).length) l.length)) = l.drop (64 * (M.length / 64 + 1) - M.length) from by congr 1; omega] at h; exact h
    refine WC_skip ?_
    refine Ps_next hK11 ?_
    refine WC_seq fun K14 hK14 => ?_
    refine WC_drawA mix (fun i => ([2, 2, 2, 2, 2, 2, 2, 2, 2, 2, 2, 1, 2, 2, 0] : List Nat).getD i 0) ?_
    refine WJ_takeP 0 rfl (by kernel_rfl) (Rd_move rfl) rfl rfl rfl (hp _ _) ?_
    refine WJ_takeP 1 rfl (by kernel_rfl) (Rd_move rfl) rfl rfl rfl (hp _ _) ?_
    refine WJ_takeP 2 rfl (by kernel_rfl) (Rd_nilCheck rfl) rfl rfl rfl (hp _ _) ?_
    refine WJ_takeP 3 rfl (by kernel_rfl) (Rd_fieldAddr rfl fo119_1) rfl rfl rfl (hp _ _) ?_
    refine WJ_tk 4 (Rd_hload rfl tk117) hp ?_ rfl (by kernel_rfl) rfl rfl rfl
    refine WJ_takeP 5 rfl (by kernel_rfl) (Rd_move rfl) rfl rfl rfl (hp _ _) ?_
    refine WJ_takeP 6 rfl (by kernel_rfl) (Rd_nilCheck rfl) rfl rfl rfl (hp _ _) ?_
    refine WJ_takeP 7 rfl (by kernel_rfl) (Rd_fieldAddr rfl fo119_2) rfl rfl rfl (hp _ _) ?_
    refine WJ_tk 8 (Rd_load rfl tk23) hp ?_ rfl (by kernel_rfl) rfl rfl rfl
    refine WJ_tk 9 (Rd_s2a rfl ud80 (hA := hSr)) hp ?_ rfl (by kernel_rfl) rfl rfl rfl
    refine WJ_tk 10 (Rd_loadW_sv rfl tk80 (hA := hSr)) hp ?_ rfl (by kernel_rfl) rfl rfl rfl
    refine WJ_all (rs := [11]) (by kernel_rfl) rfl ?_
    refine WI_one ?_
    refine WI_ac rfl (Ac_call cf89 rfl (hs := mix_ct)) rfl rfl rfl rfl ?_
    rintro _ _ ⟨⟨⟩, rfl, hA⟩
    simp only [List.cons_append, List.nil_append] at hA
    replace hA := hA.symm
    subst hA
    rw [hmx]
    refine ⟨(fun _ => (by repeat (first | with_reducible exact Sub.refl | with_reducible exact Sub.nil | with_reducible refine Sub.cons (by repeat (first | with_reducible exact Ext.here | with_reducible apply Ext.there)) ?_ | with_reducible refine Sub.tail ?_))), ?_⟩
    refine WJ_takeP 12 rfl (by kernel_rfl) (Rd_nilCheck rfl) rfl rfl rfl (hp _ _) ?_
    refine WJ_takeP 13 rfl (by kernel_rfl) (Rd_fieldAddr rfl fo119_1) rfl rfl rfl (hp _ _) ?_
    refine WJ_all (rs := [14]) (by kernel_rfl) rfl ?_
    refine WI_one ?_
    refine WI_ac0 rfl (Ac_hstore rfl rfl sz117) rfl rfl rfl ?_
    rintro _ _ rfl
    refine ⟨(fun h => by cases h), ?_⟩
    refine WJ_done (by kernel_rfl) ?_
    refine Ps_next hK14 ?_
    refine WC_region ?_
    refine WL_rd (Rd_move rfl) rfl rfl rfl ?_
    refine WL_rd (Rd_move rfl) rfl rfl rfl ?_
    refine WL_rd (Rd_nilCheck rfl) rfl rfl rfl ?_
    refine WL_rd (Rd_fieldAddr rfl fo119_2) rfl rfl rfl ?_
    refine WL_rd (Rd_load rfl tk23) rfl rfl rfl ?_
    refine WL_rd (Rd_slice_hi 0 rfl rfl ud23 sz5) rfl rfl rfl ?_
    refine WL_rd (Rd_nilCheck rfl) rfl rfl rfl ?_
    refine WL_rd (Rd_fieldAddr rfl fo119_2) rfl rfl rfl ?_
    refine WL_ac0 (Ac_hrest rfl rfl sz23) rfl rfl ?_
    rintro _ _ rfl
    refine WL_take 0 (by repeat (first | with_reducible exact Ext.here | with_reducible apply Ext.there)) ?_
    rw [List.take_zero]
    refine WL_nil ?_
    refine Ps_next hK5 ?_
    refine WC_seq fun K15 hK15 => ?_
    refine WC_block ?_
    refine WC_loop (σ := Nat × Value × (Option Addr) × Nat) (fun ⟨c, v', ao', cap'⟩ => [(0, .pointer (some ⟨b, 0, none⟩)), (1, v'), (4, .int .i64 0)]) (fun ⟨c, v', ao', cap'⟩ => cl b 119 (hsh (blkI (M ++ l) c) (sl (some gb) 0 cap39) (.int .i64 ((M.length + l.length : Nat) : Int))) :: arr (some gb) cap39 1 5 (eU .u8) ([] : List B8) :: X :: F) (fun ⟨c, v', ao', cap'⟩ => M.length ≤ 64 * c ∧ 64 * c ≤ M.length + l.length ∧ Sv [X] v' 1 (eU .u8) (l.drop (64 * c - M.length)) ao' cap') (fun ⟨c, v', ao', cap'⟩ => M.length + l.length - 64 * c) ⟨M.length / 64 + 1, .slice (sao ao (min (64 - (rM M).length) l.length) 1 cap2) (l.length - (min (64 - (rM M).length) l.length)) (cap2 - (min (64 - (rM M).length) l.length)), sao ao (min (64 - (rM M).length) l.length) 1 cap2, cap2 - (min (64 - (rM M).length) l.length)⟩ ?_ ?_ ?_ ?_
    · exact ⟨by omega, by omega, hS0⟩
    · exact (Wk.cons (by first | rfl | (simp only [List.length_append, List.length_cons, List.length_nil, List.length_replicate, Nat.zero_add]; rfl) | (simp; done)) (Wk.cons (by first | rfl | (simp only [List.length_append, List.length_cons, List.length_nil, List.length_replicate, Nat.zero_add]; rfl) | (simp; done)) (Wk.cons (by first | rfl | (simp only [List.length_append, List.length_cons, List.length_nil, List.length_replicate, Nat.zero_add]; rfl) | (simp; done)) Wk.nil)))
    · repeat (first | with_reducible exact Sub.refl | with_reducible exact Sub.nil | with_reducible refine Sub.cons (by repeat (first | with_reducible exact Ext.here | with_reducible apply Ext.there)) ?_ | with_reducible refine Sub.tail ?_)
    · rintro ⟨c, v', ao', cap'⟩ ⟨hc1', hc2', hS'⟩ K16 hK16
      dsimp only at *
      have hdl : (l.drop (64 * c - M.length)).length = M.length + l.length - 64 * c := by rw [List.length_drop]; omega
      have hbl := blkI_len (M ++ l) c
      have hbl2 := blkI_len (M ++ l) (c + 1)
      have hll : (M ++ l).length = M.length + l.length := List.length_append
      refine WC_seq fun K17 hK17 => ?_
      refine WC_sr fun K18 hK18 => ?_
      refine WL_rd (Rd_move rfl) rfl rfl rfl ?_
      refine WL_rd (Rd_len_sv rfl rfl ud23) rfl rfl rfl ?_
      refine WL_rd (Rd_geqN (j := 64) rfl rfl) rfl rfl rfl ?_
      refine WL_end hK18 ?_
      refine WC_cond rfl (fun hc3 => ?_) (fun hc3 => ?_)
      · try simp only [decide_eq_true_eq, decide_eq_false_iff_not, Bool.not_eq_true', Bool.not_eq_false', Bool.not_eq_true, Bool.not_eq_false, Int.not_lt, Int.not_le, Nat.not_lt, Nat.not_le, Decidable.not_not, ne_eq] at hc3
        have hb64' : ((l.drop (64 * c - M.length)).take 64).length = 64 := by rw [List.length_take]; omega
        refine WC_skip ?_
        refine Ps_next hK17 ?_
        refine WC_block ?_
        refine WC_seq fun K19 hK19 => ?_
        refine WC_draw mix [cl b 119 (hsh (blkI (M ++ l) c) (sl (some gb) 0 cap39) (.int .i64 ((M.length + l.length : Nat) : Int))), X] (fun i => ([2, 2, 2, 2, 2, 2, 2, 2, 1, 2, 2, 0] : List Nat).getD i 0) ?_
        refine WJ_takeP 0 rfl (by kernel_rfl) (Rd_move rfl) rfl rfl rfl (hp _ _) ?_
        refine WJ_takeP 1 rfl (by kernel_rfl) (Rd_move rfl) rfl rfl rfl (hp _ _) ?_
        refine WJ_takeP 2 rfl (by kernel_rfl) (Rd_nilCheck rfl) rfl rfl rfl (hp _ _) ?_
        refine WJ_takeP 3 rfl (by kernel_rfl) (Rd_fieldAddr rfl fo119_1) rfl rfl rfl (hp _ _) ?_
        refine WJ_tk 4 (Rd_hload rfl tk117) hp ?_ rfl (by kernel_rfl) rfl rfl rfl
        refine WJ_takeP 5 rfl (by kernel_rfl) (Rd_move rfl) rfl rfl rfl (hp _ _) ?_
        refine WJ_tk 6 (Rd_s2a rfl ud80 (hA := hS')) hp ?_ rfl (by kernel_rfl) rfl rfl rfl
        refine WJ_tk 7 (Rd_loadW_sv rfl tk80 (hA := hS')) hp ?_ rfl (by kernel_rfl) rfl rfl rfl
        refine WJ_all (rs := [8]) (by kernel_rfl) rfl ?_
        refine WI_one ?_
        refine WI_ac rfl (Ac_call cf89 rfl (hs := mix_ct)) rfl rfl rfl rfl ?_
        rintro _ _ ⟨⟨⟩, rfl, hA⟩
        simp only [List.cons_append, List.nil_append] at hA
        replace hA := hA.symm
        subst hA
        rw [left_blk (M := M) (l := l) (c := c) hc1' (by omega), blkI_succ]
        refine ⟨(fun _ => (by repeat (first | with_reducible exact Sub.refl | with_reducible exact Sub.nil | with_reducible refine Sub.cons (by repeat (first | with_reducible exact Ext.here | with_reducible apply Ext.there)) ?_ | with_reducible refine Sub.tail ?_))), ?_⟩
        refine WJ_takeP 9 rfl (by kernel_rfl) (Rd_nilCheck rfl) rfl rfl rfl (hp _ _) ?_
        refine WJ_takeP 10 rfl (by kernel_rfl) (Rd_fieldAddr rfl fo119_1) rfl rfl rfl (hp _ _) ?_
        refine WJ_all (rs := [11]) (by kernel_rfl) rfl ?_
        refine WI_one ?_
        refine WI_ac0 rfl (Ac_hstore rfl rfl sz117) rfl rfl rfl ?_
        rintro _ _ rfl
        refine ⟨(fun h => by cases h), ?_⟩
        refine WJ_done (by kernel_rfl) ?_
        refine Ps_next hK19 ?_
        refine WC_region ?_
        refine WL_rd (Rd_move rfl) rfl rfl rfl ?_
        refine WL_rd (Rd_slice_sv 64 _ rfl ⟨_, rfl⟩ rfl ud23 sz5 (hA := hS')) rfl rfl rfl ?_
        have hS2 : Sv [X] (.slice (sao ao' 64 1 cap') ((l.drop (64 * c - M.length)).length - 64) (cap' - 64)) 1 (eU .u8) (l.drop (64 * (c + 1) - M.length)) (sao ao' 64 1 cap') (cap' - 64) := by have h := hS'.sub (lo := 64) (hi := (l.drop (64 * c - M.length)).length) hc3 (Nat.le_refl _); rw [List.take_length, List.drop_drop, show 64 * c - M.length + 64 = 64 * (c + 1) - M.length from by omega] at h; exact h
        refine WL_rd (Rd_assign rfl) rfl rfl rfl ?_
        refine WL_nil ?_
        refine Ps_wk ((Wk.cons (by first | rfl | (simp only [List.length_append, List.length_cons, List.length_nil, List.length_replicate, Nat.zero_add]; rfl) | (simp; done)) (Wk.cons (by first | rfl | (simp only [List.length_append, List.length_cons, List.length_nil, List.length_replicate, Nat.zero_add]; rfl) | (simp; done)) (Wk.cons (by first | rfl | (simp only [List.length_append, List.length_cons, List.length_nil, List.length_replicate, Nat.zero_add]; rfl) | (simp; done)) Wk.nil)))) (by first | with_reducible exact Sub.refl | ((try dsimp only); repeat (first | with_reducible exact Sub.refl | with_reducible exact Sub.nil | with_reducible refine Sub.cons (by repeat (first | with_reducible exact Ext.here | with_reducible apply Ext.there)) ?_ | with_reducible refine Sub.tail ?_))) (hK16 ⟨c + 1, _, sao ao' 64 1 cap', cap' - 64⟩ (⟨by dsimp only; omega, by dsimp only; omega, hS2⟩) (by dsimp only; omega))
      · try simp only [decide_eq_true_eq, decide_eq_false_iff_not, Bool.not_eq_true', Bool.not_eq_false', Bool.not_eq_true, Bool.not_eq_false, Int.not_lt, Int.not_le, Nat.not_lt, Nat.not_le, Decidable.not_not, ne_eq] at hc3
        obtain rfl : c = (M ++ l).length / 64 := by omega
        have hnl : ([] : List B8).length = 0 := rfl
        have happ : [] ++ l.drop (64 * ((M ++ l).length / 64) - M.length) = rM (M ++ l) := by rw [List.nil_append]; exact left_end hc1'
        have hlen : ([] : List B8).length + (l.drop (64 * ((M ++ l).length / 64) - M.length)).length = (rM (M ++ l)).length := by rw [← happ, List.nil_append, List.length_nil, Nat.zero_add]
        rw [show blkI (M ++ l) ((M ++ l).length / 64) = hM (M ++ l) from rfl]
        rw [← List.length_append]
        refine WC_exit ?_
        refine Ps_next hK15 ?_
        refine WC_sr fun K20 hK20 => ?_
        refine WL_rd (Rd_move rfl) rfl rfl rfl ?_
        refine WL_rd (Rd_move rfl) rfl rfl rfl ?_
        refine WL_rd (Rd_nilCheck rfl) rfl rfl rfl ?_
        refine WL_rd (Rd_fieldAddr rfl fo119_2) rfl rfl rfl ?_
        refine WL_rd (Rd_load rfl tk23) rfl rfl rfl ?_
        refine WL_rd (Rd_move rfl) rfl rfl rfl ?_
        refine WL_ac (Ac_appendS (f := (eU .u8 (w := 8))) (encU .u8) rfl rfl ud23 ud23 el5) rfl rfl rfl ?_
        rintro _ _ ⟨a95, cap95, rfl, rfl⟩
        rw [hlen, happ]
        refine WL_rd (Rd_nilCheck rfl) rfl rfl rfl ?_
        refine WL_rd (Rd_fieldAddr rfl fo119_2) rfl rfl rfl ?_
        refine WL_ac0 (Ac_hrest rfl rfl sz23) rfl rfl ?_
        rintro _ _ rfl
        refine WL_end hK20 ?_
        refine WC_sr fun K21 hK21 => ?_
        refine WL_rd (Rd_assign rfl) rfl rfl rfl ?_
        refine WL_end hK21 ?_
        refine WC_ret ?_
        first | exact hret.go (a95, cap95) (Rs1 rfl rfl) | exact hret.go (a39, cap39) (Rs1 rfl rfl)
end Go.Proofs.Ytlcafifjhilleaa
namespace Go.Proofs.Ytlcafifjhilleaa
open Go.RowKit Go.SL Go.ShM
set_option maxHeartbeats 1000000
set_option maxRecDepth 20000
set_option linter.all false
theorem cf87 : cfn Try.prog 87 = true := by kernel_rfl
theorem pls119 : pls Try.prog 119 = some ([.bool false, .int .u32 0, .int .u32 0, .int .u32 0, .int .u32 0, .int .u32 0, .int .u32 0, .int .u32 0, .int .u32 0, .slice none 0 0, .int .i64 0], [(0, 1), (1, 8), (9, 1), (10, 1)]) := by kernel_rfl
theorem write_ct {X : Asn} {v : Value} {l : List B8} {ao : Option Addr} {cap2 b : Nat} {M : List B8} {a : Option Nat} {cap : Nat} (hS : Sv [X] v 1 (eU .u8) l ao cap2 := by assumption) (hl : l.length ≤ 900000000000 := by omega) (hM9 : M.length + l.length ≤ 1152921504606846976 := by omega) : Ct Try.prog 80 [.pointer (some ⟨b, 0, none⟩), v] [cl b 119 (hsh (hM M) (sl a (rM M).length cap) (.int .i64 ((M.length : Nat) : Int))), arr a cap 1 5 (eU .u8) (rM M), X] (fun g : Option Nat × Nat => .int .i64 0) (fun g => [cl b 119 (hsh (hM (M ++ l)) (sl g.1 (rM (M ++ l)).length g.2) (.int .i64 (((M ++ l).length : Nat) : Int))), arr g.1 g.2 1 5 (eU .u8) (rM (M ++ l)), X]) := by
  by_cases h0 : M.length % 64 = 0
  · exact write0_ct (h0 := h0)
  · exact writeN_ct (h0 := h0)

theorem new_ct   : Ct Try.prog 79 [] [] (fun b : Nat => .pointer (some ⟨b, 0, none⟩)) (fun b => [cl b 119 (hsh (hM ([] : List B8)) (sl none (rM ([] : List B8)).length 0) (.int .i64 ((([] : List B8).length : Nat) : Int))), arr none 0 1 5 (eU .u8) (rM ([] : List B8))]) := by
  refine Ct_body (n := 4) Try.func79 rfl rfl rfl fun F w0 Q hret hnorm hp => ?_
  change WC _ _ _ _ _ _ _ (F)
  have e1 : hM ([] : List B8) = iniM := rfl
  have e2 : rM ([] : List B8) = [] := rfl
  rw [e1, e2] at hret
  simp only [List.length_nil] at hret
  refine WC_imp (fun w h => sat_nil (e := 1) (T := 5) (f := eU .u8 (w := 8)) h) ?_
  refine WC_sr fun K1 hK1 => ?_
  refine WL_rd (Rd_assign rfl) rfl rfl rfl ?_
  refine WL_end hK1 ?_
  refine WC_sr fun K2 hK2 => ?_
  refine WL_ac (Ac_call cf87 rfl (hs := init_ct)) rfl rfl rfl ?_
  rintro _ _ ⟨⟨⟩, rfl, hA⟩
  simp only [List.cons_append, List.nil_append] at hA
  replace hA := hA.symm
  subst hA
  refine WL_rd (Rd_build (xs := hsh iniM (sl none 0 0) (.int .i64 ((0 : Nat) : Int))) pls119 rfl (by rfl)) rfl rfl rfl ?_
  refine WL_ac (Ac_box (xs := hsh iniM (sl none 0 0) (.int .i64 ((0 : Nat) : Int))) rfl rfl) rfl rfl rfl ?_
  rintro _ _ ⟨b3, rfl, rfl⟩
  refine WL_rd (Rd_assign rfl) rfl rfl rfl ?_
  refine WL_end hK2 ?_
  refine WC_ret ?_
  exact hret.go b3 (Rs1 rfl rfl)
end Go.Proofs.Ytlcafifjhilleaa
namespace Go.Proofs.Ytlcafifjhilleaa
open Go.RowKit Go.SL Go.ShM
set_option maxHeartbeats 1000000
set_option maxRecDepth 20000
set_option linter.all false
theorem ud3 : Try.prog.underlying 3 = some (.int .i64) := by kernel_rfl
theorem grow_ct {n : Nat} (hn : n ≤ 900000000000 := by omega) : Ct Try.prog 96 [sl none 0 0, .int .i64 ((n : Nat) : Int)] [] (fun g : Option Nat × Nat => sl g.1 0 g.2) (fun g => [arr g.1 g.2 1 5 (eU .u8) ([] : List B8)]) := by
  refine Ct_body (n := 27) Try.func96 rfl rfl rfl fun F w0 Q hret hnorm hp => ?_
  change WC _ _ _ _ _ _ _ (F)
  refine WC_sr fun K1 hK1 => ?_
  refine WL_rd (Rd_assign (v := sl none 0 0) rfl) rfl rfl rfl ?_
  refine WL_end hK1 ?_
  refine WC_seq fun K2 hK2 => ?_
  refine WC_sr fun K3 hK3 => ?_
  refine WL_rd (Rd_move rfl) rfl rfl rfl ?_
  refine WL_rd (Rd_isF (Rd_lssN (j := 0) rfl rfl)) rfl rfl rfl ?_
  refine WL_end hK3 ?_
  refine WC_condF rfl ?_
  refine WC_skip ?_
  refine Ps_next hK2 ?_
  refine WC_seq fun K4 hK4 => ?_
  refine WC_sr fun K5 hK5 => ?_
  refine WL_rd (Rd_move rfl) rfl rfl rfl ?_
  refine WL_rd (Rd_move rfl) rfl rfl rfl ?_
  refine WL_rd (Rd_cap rfl rfl ud23) rfl rfl rfl ?_
  refine WL_rd (Rd_move rfl) rfl rfl rfl ?_
  refine WL_rd (Rd_len rfl rfl ud23) rfl rfl rfl ?_
  refine WL_rd (Rd_subN rfl rfl) rfl rfl rfl ?_
  refine WL_rd (Rd_subN rfl rfl) rfl rfl rfl ?_
  refine WL_rd (Rd_assign rfl) rfl rfl rfl ?_
  refine WL_end hK5 ?_
  refine WC_sr fun K6 hK6 => ?_
  refine WL_rd (Rd_move rfl) rfl rfl rfl ?_
  refine WL_rd (Rd_gtrN (j := 0) rfl rfl) rfl rfl rfl ?_
  refine WL_end hK6 ?_
  refine WC_cond rfl (fun hc1 => ?_) (fun hc1 => ?_)
  · try simp only [decide_eq_true_eq, decide_eq_false_iff_not, Bool.not_eq_true', Bool.not_eq_false', Bool.not_eq_true, Bool.not_eq_false, Int.not_lt, Int.not_le, Nat.not_lt, Nat.not_le, Decidable.not_not, ne_eq] at hc1
    refine WC_region ?_
    refine WL_rd (Rd_move rfl) rfl rfl rfl ?_
    refine WL_rd (Rd_move rfl) rfl rfl rfl ?_
    refine WL_rd (Rd_cap rfl rfl ud23) rfl rfl rfl ?_
    refine WL_rd (Rd_slice_hi 0 rfl rfl ud23 sz5) rfl rfl rfl ?_
    refine WL_rd (Rd_move rfl) rfl rfl rfl ?_
    refine WL_ac (Ac_appendZ (0#8) (encU .u8) rfl rfl rfl ud23 ud3 el5 zr5) rfl rfl rfl ?_
    rintro _ _ ⟨b22, c22, rfl, rfl⟩
    refine WL_rd (Rd_move rfl) rfl rfl rfl ?_
    refine WL_rd (Rd_len rfl rfl ud23) rfl rfl rfl ?_
    refine WL_rd (Rd_slice_hi _ rfl rfl ud23 sz5) rfl rfl rfl ?_
    refine WL_take 0 (by repeat (first | with_reducible exact Ext.here | with_reducible apply Ext.there)) ?_
    rw [List.take_zero]
    refine WL_rd (Rd_assign rfl) rfl rfl rfl ?_
    refine WL_nil ?_
    refine Ps_next hK4 ?_
    refine WC_sr fun K7 hK7 => ?_
    refine WL_rd (Rd_move rfl) rfl rfl rfl ?_
    refine WL_rd (Rd_assign rfl) rfl rfl rfl ?_
    refine WL_end hK7 ?_
    refine WC_ret ?_
    first | exact hret.go (some b22, c22) (Rs1 rfl rfl) | exact hret.go (none, 0) (Rs1 rfl rfl)
  · try simp only [decide_eq_true_eq, decide_eq_false_iff_not, Bool.not_eq_true', Bool.not_eq_false', Bool.not_eq_true, Bool.not_eq_false, Int.not_lt, Int.not_le, Nat.not_lt, Nat.not_le, Decidable.not_not, ne_eq] at hc1
    refine WC_imp (fun w h => sat_nil (e := 1) (T := 5) (f := eU .u8 (w := 8)) h) ?_
    refine WC_skip ?_
    refine Ps_next hK4 ?_
    refine WC_sr fun K8 hK8 => ?_
    refine WL_rd (Rd_move rfl) rfl rfl rfl ?_
    refine WL_rd (Rd_assign rfl) rfl rfl rfl ?_
    refine WL_end hK8 ?_
    refine WC_ret ?_
    first | exact hret.go (some b22, c22) (Rs1 rfl rfl) | exact hret.go (none, 0) (Rs1 rfl rfl)
end Go.Proofs.Ytlcafifjhilleaa
namespace Go.Proofs.Ytlcafifjhilleaa
open Go.RowKit Go.SL Go.ShM
set_option maxHeartbeats 1000000
set_option maxRecDepth 20000
set_option linter.all false
theorem cf91 : cfn Try.prog 91 = true := by kernel_rfl
theorem cf96 : cfn Try.prog 96 = true := by kernel_rfl
theorem ud22 : Try.prog.underlying 22 = some (.slice 23) := by kernel_rfl
theorem concat_ct {X : Asn} {v : Value} {ps : List Pt} {ao : Option Addr} {cap2 : Nat} (hS : Sv [X] v 1 fP ps ao cap2 := by assumption) (hP : ∀ p ∈ ps, RdP [X] p := by assumption) (hn : (joinP ps).length ≤ 900000000000 := by omega) (hk : ps.length ≤ 900000000000 := by omega) : Ct Try.prog 91 [v] [X] (fun g : Option Nat × Nat => sl g.1 (joinP ps).length g.2) (fun g => [X, arr g.1 g.2 1 5 (eU .u8) (joinP ps)]) := by
  refine Ct_body (n := 36) Try.func91 rfl rfl rfl fun F w0 Q hret hnorm hp => ?_
  change WC _ _ _ _ _ _ _ (_ :: F)
  refine WC_sr fun K1 hK1 => ?_
  refine WL_rd (Rd_assign (v := sl none 0 0) rfl) rfl rfl rfl ?_
  refine WL_end hK1 ?_
  refine WC_sr fun K2 hK2 => ?_
  refine WL_rd (Rd_assign rfl) rfl rfl rfl ?_
  refine WL_end hK2 ?_
  refine WC_seq fun K3 hK3 => ?_
  refine WC_sr fun K4 hK4 => ?_
  refine WL_rd (Rd_move rfl) rfl rfl rfl ?_
  refine WL_rd (Rd_len_sv rfl rfl ud22) rfl rfl rfl ?_
  refine WL_rd (Rd_move rfl) rfl rfl rfl ?_
  refine WL_end hK4 ?_
  refine WC_block ?_
  refine WC_loop (σ := Nat) (fun i' => [(0, v), (3, .int .i64 (((joinP (ps.take i')).length : Nat) : Int)), (9, v), (10, .int .i64 ((ps.length : Nat) : Int)), (11, .int .i64 ((i' : Nat) : Int))]) (fun i' => X :: F) (fun i' => i' ≤ ps.length) (fun i' => ps.length - i') (0) ?_ ?_ ?_ ?_
  · exact Nat.zero_le _
  · exact (Wk.cons (by first | rfl | (simp only [List.length_append, List.length_cons, List.length_nil, List.length_replicate, Nat.zero_add]; rfl) | (simp; done)) (Wk.cons (by first | rfl | (simp only [List.length_append, List.length_cons, List.length_nil, List.length_replicate, Nat.zero_add]; rfl) | (simp; done)) (Wk.cons (by first | rfl | (simp only [List.length_append, List.length_cons, List.length_nil, List.length_replicate, Nat.zero_add]; rfl) | (simp; done)) (Wk.cons (by first | rfl | (simp only [List.length_append, List.length_cons, List.length_nil, List.length_replicate, Nat.zero_add]; rfl) | (simp; done)) (Wk.cons (by first | rfl | (simp only [List.length_append, List.length_cons, List.length_nil, List.length_replicate, Nat.zero_add]; rfl) | (simp; done)) Wk.nil)))))
  · repeat (first | with_reducible exact Sub.refl | with_reducible exact Sub.nil | with_reducible refine Sub.cons (by repeat (first | with_reducible exact Ext.here | with_reducible apply Ext.there)) ?_ | with_reducible refine Sub.tail ?_)
  · rintro i' hi K5 hK5
    refine WC_sr fun K6 hK6 => ?_
    refine WL_rd (Rd_lssN rfl rfl) rfl rfl rfl ?_
    refine WL_end hK6 ?_
    refine WC_seq fun K7 hK7 => ?_
    refine WC_cond rfl (fun hc0 => ?_) (fun hc0 => ?_)
    · try simp only [decide_eq_true_eq, decide_eq_false_iff_not, Bool.not_eq_true', Bool.not_eq_false', Bool.not_eq_true, Bool.not_eq_false, Int.not_lt, Int.not_le, Nat.not_lt, Nat.not_le, Decidable.not_not, ne_eq] at hc0
      obtain ⟨p, hp⟩ : ∃ p, ps[i']? = some p := ⟨_, List.getElem?_eq_getElem (by omega)⟩
      have hpS : Sv [X] p.v 1 (eU .u8 (w := 8)) p.l p.ao p.cap := hP p (List.mem_of_getElem? hp)
      have hpl := joinP_len hp
      have hle := joinP_le ps (i' + 1)
      refine WC_skip ?_
      refine Ps_next hK7 ?_
      refine WC_seq fun K8 hK8 => ?_
      refine WC_block ?_
      refine WC_sr fun K9 hK9 => ?_
      refine WL_rd (Rd_index_sv i' rfl rfl ud22 sz23 (hA := hS) (hi := by omega)) rfl rfl rfl ?_
      refine WL_rd (Rd_load_sv (i := i') (j := 0) rfl tk23 (hA := hS) (hl := hp)) rfl rfl rfl ?_
      refine WL_rd (Rd_assign rfl) rfl rfl rfl ?_
      refine WL_end hK9 ?_
      refine WC_sr fun K10 hK10 => ?_
      refine WL_rd (Rd_move rfl) rfl rfl rfl ?_
      refine WL_rd (Rd_move rfl) rfl rfl rfl ?_
      refine WL_rd (Rd_len_sv rfl rfl ud23 (hA := hpS)) rfl rfl rfl ?_
      refine WL_rd (Rd_addN rfl rfl) rfl rfl rfl ?_
      rw [hpl]
      refine WL_rd (Rd_assign rfl) rfl rfl rfl ?_
      refine WL_end hK10 ?_
      refine WC_sr fun K11 hK11 => ?_
      refine WL_rd (Rd_move rfl) rfl rfl rfl ?_
      refine WL_rd (Rd_isF (Rd_lssN (j := 0) rfl rfl)) rfl rfl rfl ?_
      refine WL_end hK11 ?_
      refine WC_condF rfl ?_
      refine WC_skip ?_
      refine Ps_next hK8 ?_
      refine WC_region ?_
      refine WL_rd (Rd_addN (j := 1) rfl rfl) rfl rfl rfl ?_
      refine WL_rd (Rd_move rfl) rfl rfl rfl ?_
      refine WL_nil ?_
      refine Ps_wk ((Wk.cons (by first | rfl | (simp only [List.length_append, List.length_cons, List.length_nil, List.length_replicate, Nat.zero_add]; rfl) | (simp; done)) (Wk.cons (by first | rfl | (simp only [List.length_append, List.length_cons, List.length_nil, List.length_replicate, Nat.zero_add]; rfl) | (simp; done)) (Wk.cons (by first | rfl | (simp only [List.length_append, List.length_cons, List.length_nil, List.length_replicate, Nat.zero_add]; rfl) | (simp; done)) (Wk.cons (by first | rfl | (simp only [List.length_append, List.length_cons, List.length_nil, List.length_replicate, Nat.zero_add]; rfl) | (simp; done)) (Wk.cons (by first | rfl | (simp only [List.length_append, List.length_cons, List.length_nil, List.length_replicate, Nat.zero_add]; rfl) | (simp; done)) Wk.nil)))))) (by first | with_reducible exact Sub.refl | ((try dsimp only); repeat (first | with_reducible exact Sub.refl | with_reducible exact Sub.nil | with_reducible refine Sub.cons (by repeat (first | with_reducible exact Ext.here | with_reducible apply Ext.there)) ?_ | with_reducible refine Sub.tail ?_))) (hK5 (i' + 1) (by omega) (by omega))
    · try simp only [decide_eq_true_eq, decide_eq_false_iff_not, Bool.not_eq_true', Bool.not_eq_false', Bool.not_eq_true, Bool.not_eq_false, Int.not_lt, Int.not_le, Nat.not_lt, Nat.not_le, Decidable.not_not, ne_eq] at hc0
      obtain rfl : i' = ps.length := by omega
      have hle := joinP_le ps ps.length
      refine WC_exit ?_
      refine Ps_next hK3 ?_
      refine WC_sr fun K12 hK12 => ?_
      refine WL_rd (Rd_move rfl) rfl rfl rfl ?_
      refine WL_ac (Ac_call cf96 rfl (hs := grow_ct (n := (joinP (ps.take ps.length)).length))) rfl rfl rfl ?_
      rintro _ _ ⟨⟨a24, cap24⟩, rfl, hA⟩
      simp only [List.cons_append, List.nil_append] at hA
      replace hA := hA.symm
      subst hA
      refine WL_rd (Rd_assign rfl) rfl rfl rfl ?_
      refine WL_end hK12 ?_
      refine WC_seq fun K13 hK13 => ?_
      refine WC_sr fun K14 hK14 => ?_
      refine WL_rd (Rd_move rfl) rfl rfl rfl ?_
      refine WL_rd (Rd_len_sv rfl rfl ud22) rfl rfl rfl ?_
      refine WL_rd (Rd_move rfl) rfl rfl rfl ?_
      refine WL_end hK14 ?_
      refine WC_block ?_
      rw [show ([] : List B8) = joinP (ps.take 0) from rfl]
      refine WC_loop (σ := Nat × (Option Nat) × Nat) (fun ⟨i2, a2, cap3⟩ => [(0, v), (6, sl a2 (joinP (ps.take i2)).length cap3), (25, v), (26, .int .i64 ((ps.length : Nat) : Int)), (27, .int .i64 ((i2 : Nat) : Int))]) (fun ⟨i2, a2, cap3⟩ => arr a2 cap3 1 5 (eU .u8) (joinP (ps.take i2)) :: X :: F) (fun ⟨i2, a2, cap3⟩ => i2 ≤ ps.length) (fun ⟨i2, a2, cap3⟩ => ps.length - i2) ⟨0, a24, cap24⟩ ?_ ?_ ?_ ?_
      · exact Nat.zero_le _
      · exact (Wk.cons (by first | rfl | (simp only [List.length_append, List.length_cons, List.length_nil, List.length_replicate, Nat.zero_add]; rfl) | (simp; done)) (Wk.cons (by first | rfl | (simp only [List.length_append, List.length_cons, List.length_nil, List.length_replicate, Nat.zero_add]; rfl) | (simp; done)) (Wk.cons (by first | rfl | (simp only [List.length_append, List.length_cons, List.length_nil, List.length_replicate, Nat.zero_add]; rfl) | (simp; done)) (Wk.cons (by first | rfl | (simp only [List.length_append, List.length_cons, List.length_nil, List.length_replicate, Nat.zero_add]; rfl) | (simp; done)) (Wk.cons (by first | rfl | (simp only [List.length_append, List.length_cons, List.length_nil, List.length_replicate, Nat.zero_add]; rfl) | (simp; done)) Wk.nil)))))
      · repeat (first | with_reducible exact Sub.refl | with_reducible exact Sub.nil | with_reducible refine Sub.cons (by repeat (first | with_reducible exact Ext.here | with_reducible apply Ext.there)) ?_ | with_reducible refine Sub.tail ?_)
      · rintro ⟨i2, a2, cap3⟩ hj K15 hK15
        refine WC_sr fun K16 hK16 => ?_
        refine WL_rd (Rd_lssN rfl rfl) rfl rfl rfl ?_
        refine WL_end hK16 ?_
        refine WC_seq fun K17 hK17 => ?_
        refine WC_cond rfl (fun hc2 => ?_) (fun hc2 => ?_)
        · try simp only [decide_eq_true_eq, decide_eq_false_iff_not, Bool.not_eq_true', Bool.not_eq_false', Bool.not_eq_true, Bool.not_eq_false, Int.not_lt, Int.not_le, Nat.not_lt, Nat.not_le, Decidable.not_not, ne_eq] at hc2
          obtain ⟨p, hp⟩ : ∃ p, ps[i2]? = some p := ⟨_, List.getElem?_eq_getElem (by omega)⟩
          have hpS : Sv [X] p.v 1 (eU .u8 (w := 8)) p.l p.ao p.cap := hP p (List.mem_of_getElem? hp)
          have hpl := joinP_len hp
          have hle := joinP_le ps (i2 + 1)
          refine WC_skip ?_
          refine Ps_next hK17 ?_
          refine WC_seq fun K18 hK18 => ?_
          refine WC_block ?_
          refine WC_sr fun K19 hK19 => ?_
          refine WL_rd (Rd_index_sv i2 rfl rfl ud22 sz23 (hA := hS) (hi := by omega)) rfl rfl rfl ?_
          refine WL_rd (Rd_load_sv (i := i2) (j := 0) rfl tk23 (hA := hS) (hl := hp)) rfl rfl rfl ?_
          refine WL_rd (Rd_assign rfl) rfl rfl rfl ?_
          refine WL_end hK19 ?_
          refine WC_region ?_
          refine WL_rd (Rd_move rfl) rfl rfl rfl ?_
          refine WL_rd (Rd_move rfl) rfl rfl rfl ?_
          refine WL_ac (Ac_appendS (f := (eU .u8 (w := 8))) (encU .u8) rfl rfl ud23 ud23 el5) rfl rfl rfl ?_
          rintro _ _ ⟨a33, cap33, rfl, rfl⟩
          rw [hpl, joinP_take hp]
          refine WL_rd (Rd_assign rfl) rfl rfl rfl ?_
          refine WL_nil ?_
          refine Ps_next hK18 ?_
          refine WC_region ?_
          refine WL_rd (Rd_addN (j := 1) rfl rfl) rfl rfl rfl ?_
          refine WL_rd (Rd_move rfl) rfl rfl rfl ?_
          refine WL_nil ?_
          refine Ps_wk ((Wk.cons (by first | rfl | (simp only [List.length_append, List.length_cons, List.length_nil, List.length_replicate, Nat.zero_add]; rfl) | (simp; done)) (Wk.cons (by first | rfl | (simp only [List.length_append, List.length_cons, List.length_nil, List.length_replicate, Nat.zero_add]; rfl) | (simp; done)) (Wk.cons (by first | rfl | (simp only [List.length_append, List.length_cons, List.length_nil, List.length_replicate, Nat.zero_add]; rfl) | (simp; done)) (Wk.cons (by first | rfl | (simp only [List.length_append, List.length_cons, List.length_nil, List.length_replicate, Nat.zero_add]; rfl) | (simp; done)) (Wk.cons (by first | rfl | (simp only [List.length_append, List.length_cons, List.length_nil, List.length_replicate, Nat.zero_add]; rfl) | (simp; done)) Wk.nil)))))) (by first | with_reducible exact Sub.refl | ((try dsimp only); repeat (first | with_reducible exact Sub.refl | with_reducible exact Sub.nil | with_reducible refine Sub.cons (by repeat (first | with_reducible exact Ext.here | with_reducible apply Ext.there)) ?_ | with_reducible refine Sub.tail ?_))) (hK15 ⟨i2 + 1, a33, cap33⟩ (by dsimp only; omega) (by dsimp only; omega))
        · try simp only [decide_eq_true_eq, decide_eq_false_iff_not, Bool.not_eq_true', Bool.not_eq_false', Bool.not_eq_true, Bool.not_eq_false, Int.not_lt, Int.not_le, Nat.not_lt, Nat.not_le, Decidable.not_not, ne_eq] at hc2
          obtain rfl : i2 = ps.length := by omega
          dsimp only
          rw [joinP_all (Nat.le_refl _)]
          refine WC_exit ?_
          refine Ps_next hK13 ?_
          refine WC_sr fun K20 hK20 => ?_
          refine WL_rd (Rd_move rfl) rfl rfl rfl ?_
          refine WL_rd (Rd_assign rfl) rfl rfl rfl ?_
          refine WL_end hK20 ?_
          refine WC_ret ?_
          exact hret.go (a2, cap3) (Rs1 rfl rfl)

theorem join_ct {X : Asn} {v : Value} {ps : List Pt} {ao : Option Addr} {cap2 : Nat} (hS : Sv [X] v 1 fP ps ao cap2 := by assumption) (hP : ∀ p ∈ ps, RdP [X] p := by assumption) (hn : (joinP ps).length ≤ 900000000000 := by omega) (hk : ps.length ≤ 900000000000 := by omega) : Ct Try.prog 82 [v] [X] (fun g : Option Nat × Nat => sl g.1 (joinP ps).length g.2) (fun g => [X, arr g.1 g.2 1 5 (eU .u8) (joinP ps)]) := by
  refine Ct_body (n := 5) Try.func82 rfl rfl rfl fun F w0 Q hret hnorm hp => ?_
  change WC _ _ _ _ _ _ _ (_ :: F)
  refine WC_sr fun K1 hK1 => ?_
  refine WL_rd (Rd_assign (v := sl none 0 0) rfl) rfl rfl rfl ?_
  refine WL_end hK1 ?_
  refine WC_sr fun K2 hK2 => ?_
  refine WL_rd (Rd_move rfl) rfl rfl rfl ?_
  refine WL_ac (Ac_call cf91 rfl (hs := concat_ct (ps := ps))) rfl rfl rfl ?_
  rintro _ _ ⟨⟨a4, cap4⟩, rfl, hA⟩
  simp only [List.cons_append, List.nil_append] at hA
  replace hA := hA.symm
  subst hA
  refine WL_rd (Rd_assign rfl) rfl rfl rfl ?_
  refine WL_end hK2 ?_
  refine WC_ret ?_
  exact hret.go (a4, cap4) (Rs1 rfl rfl)
end Go.Proofs.Ytlcafifjhilleaa
namespace Go.Proofs.Ytlcafifjhilleaa
open Go.RowKit Go.SL Go.ShM
set_option maxHeartbeats 1000000
set_option maxRecDepth 20000
set_option linter.all false
theorem ais117 : ais Try.prog 117 = some (8, 44) := by kernel_rfl
theorem cf38 : cfn Try.prog 38 = true := by kernel_rfl
theorem cf82 : cfn Try.prog 82 = true := by kernel_rfl
theorem cf90 : cfn Try.prog 90 = true := by kernel_rfl
theorem sz43 : sz Try.prog 43 = some 32 := by kernel_rfl
theorem tk43 : tk Try.prog 43 = some (some 32) := by kernel_rfl
theorem ud43 : Try.prog.underlying 43 = some (.array 32 5) := by kernel_rfl
theorem zr23 : zr Try.prog 23 = some [.slice none 0 0] := by kernel_rfl
theorem zr43 : zr Try.prog 43 = some [.int .u8 0, .int .u8 0, .int .u8 0, .int .u8 0, .int .u8 0, .int .u8 0, .int .u8 0, .int .u8 0, .int .u8 0, .int .u8 0, .int .u8 0, .int .u8 0, .int .u8 0, .int .u8 0, .int .u8 0, .int .u8 0, .int .u8 0, .int .u8 0, .int .u8 0, .int .u8 0, .int .u8 0, .int .u8 0, .int .u8 0, .int .u8 0, .int .u8 0, .int .u8 0, .int .u8 0, .int .u8 0, .int .u8 0, .int .u8 0, .int .u8 0, .int .u8 0] := by kernel_rfl
theorem hsum_ct {b : Nat} {M : List B8} {a : Option Nat} {cap : Nat} (hM9 : M.length ≤ 900000000000 := by omega) : Ct Try.prog 81 [.pointer (some ⟨b, 0, none⟩)] [cl b 119 (hsh (hM M) (sl a (rM M).length cap) (.int .i64 ((M.length : Nat) : Int))), arr a cap 1 5 (eU .u8) (rM M)] (fun _ : Unit => aU .u8 (dgM M)) (fun _ => [cl b 119 (hsh (hM M) (sl a (rM M).length cap) (.int .i64 ((M.length : Nat) : Int))), arr a cap 1 5 (eU .u8) (rM M)]) := by
  refine Ct_body (n := 60) Try.func81 rfl rfl rfl fun F w0 Q hret hnorm hp => ?_
  change WC _ _ _ _ _ _ _ (_ :: _ :: F)
  have hhl := hM_len M
  have htl := tlM_len M
  have hpl := padM_len M.length
  have hpz := padZ_lt M.length
  have hdl := dgM_len M
  refine WC_sr fun K1 hK1 => ?_
  refine WL_ac (Ac_allocW (k := .u8) (w := 8) (m := 32) zr43) rfl rfl rfl ?_
  rintro _ _ ⟨b2, rfl, rfl⟩
  refine WL_end hK1 ?_
  refine WC_sr fun K2 hK2 => ?_
  refine WL_ac (Ac_allocW (k := .u8) (w := 8) (m := 32) zr43) rfl rfl rfl ?_
  rintro _ _ ⟨b3, rfl, rfl⟩
  refine WL_end hK2 ?_
  refine WC_seq fun K3 hK3 => ?_
  refine WC_sr fun K4 hK4 => ?_
  refine WL_rd (Rd_move rfl) rfl rfl rfl ?_
  refine WL_ac (Ac_call cf88 rfl (hs := hok_ct)) rfl rfl rfl ?_
  rintro _ _ ⟨⟨⟩, rfl, hA⟩
  simp only [List.cons_append, List.nil_append] at hA
  replace hA := hA.symm
  subst hA
  refine WL_rd (Rd_not rfl) rfl rfl rfl ?_
  refine WL_end hK4 ?_
  refine WC_condF rfl ?_
  refine WC_skip ?_
  refine Ps_next hK3 ?_
  refine WC_sr fun K5 hK5 => ?_
  refine WL_rd (Rd_move rfl) rfl rfl rfl ?_
  refine WL_rd (Rd_nilCheck rfl) rfl rfl rfl ?_
  refine WL_rd (Rd_fieldAddr rfl fo119_3) rfl rfl rfl ?_
  refine WL_rd (Rd_load rfl tk3) rfl rfl rfl ?_
  refine WL_ac (Ac_call cf90 rfl (hs := pad_ct (n := M.length))) rfl rfl rfl ?_
  rintro _ _ ⟨⟨a19, cap19⟩, rfl, hA⟩
  simp only [List.cons_append, List.nil_append] at hA
  replace hA := hA.symm
  subst hA
  refine WL_rd (Rd_move rfl) rfl rfl rfl ?_
  refine WL_rd (Rd_ext0 rfl) rfl rfl rfl ?_
  refine WL_rd (Rd_ext1 rfl) rfl rfl rfl ?_
  refine WL_rd (Rd_assign rfl) rfl rfl rfl ?_
  refine WL_rd (Rd_assign rfl) rfl rfl rfl ?_
  refine WL_end hK5 ?_
  refine WC_sr fun K6 hK6 => ?_
  refine WL_rd (Rd_move rfl) rfl rfl rfl ?_
  refine WL_rd (Rd_nilCheck rfl) rfl rfl rfl ?_
  refine WL_rd (Rd_fieldAddr rfl fo119_1) rfl rfl rfl ?_
  refine WL_rd (Rd_hload rfl tk117) rfl rfl rfl ?_
  refine WL_ac (Ac_allocW (k := .u32) (w := 32) (m := 8) zr117) rfl rfl rfl ?_
  rintro _ _ ⟨b6, rfl, rfl⟩
  refine WL_ac0 (Ac_storeW rfl rfl sz117) rfl rfl ?_
  rintro _ _ rfl
  refine WL_end hK6 ?_
  refine WC_sr fun K7 hK7 => ?_
  refine WL_rd (Rd_move rfl) rfl rfl rfl ?_
  refine WL_rd (Rd_nilCheck rfl) rfl rfl rfl ?_
  refine WL_rd (Rd_fieldAddr rfl fo119_2) rfl rfl rfl ?_
  refine WL_rd (Rd_load rfl tk23) rfl rfl rfl ?_
  refine WL_rd (Rd_move rfl) rfl rfl rfl ?_
  refine WL_ac (Ac_bsL (zs := [.slice none 0 0]) (bs := [.slice none 0 0, .slice none 0 0]) [(⟨rM M, a.map (fun g => ⟨g, 0, none⟩), cap⟩ : Pt), (⟨padM M.length, a19.map (fun g => ⟨g, 0, none⟩), cap19⟩ : Pt)] encP ud22 zr23 sz23 rfl (by rw [Array.toList_map, Array.toList_range]; rfl) (by rfl) (by rfl) (by rfl) (by rfl)) rfl rfl rfl ?_
  rintro _ _ ⟨b31, rfl, rfl⟩
  refine WL_fact (fun w h => arr_facts (a := a) (cap := cap) (e := 1) (T := 5) (f := eU .u8 (w := 8)) (l := rM M) (by repeat (first | with_reducible exact Has.here | with_reducible refine Has.there ?_)) h) (fun hf1 => ?_)
  refine WL_fact (fun w h => arr_facts (a := a19) (cap := cap19) (e := 1) (T := 5) (f := eU .u8 (w := 8)) (l := padM M.length) (by repeat (first | with_reducible exact Has.here | with_reducible refine Has.there ?_)) h) (fun hf2 => ?_)
  have hS1 : RdP [arr a cap 1 5 (eU .u8) (rM M)] (⟨rM M, a.map (fun g => ⟨g, 0, none⟩), cap⟩ : Pt) := Sv_own' (encU .u8 (w := 8)) hf1.1 hf1.2
  have hS2 : RdP [arr a19 cap19 1 5 (eU .u8) (padM M.length)] (⟨padM M.length, a19.map (fun g => ⟨g, 0, none⟩), cap19⟩ : Pt) := Sv_own' (encU .u8 (w := 8)) hf2.1 hf2.2
  have hS3 : Sv [arr (some b31) 2 1 23 fP [(⟨rM M, a.map (fun g => ⟨g, 0, none⟩), cap⟩ : Pt), (⟨padM M.length, a19.map (fun g => ⟨g, 0, none⟩), cap19⟩ : Pt)]] (sl (some b31) 2 2) 1 fP [(⟨rM M, a.map (fun g => ⟨g, 0, none⟩), cap⟩ : Pt), (⟨padM M.length, a19.map (fun g => ⟨g, 0, none⟩), cap19⟩ : Pt)] (some ⟨b31, 0, none⟩) 2 := Sv_own' (a := some b31) (cap := 2) (T := 23) encP (l := [(⟨rM M, a.map (fun g => ⟨g, 0, none⟩), cap⟩ : Pt), (⟨padM M.length, a19.map (fun g => ⟨g, 0, none⟩), cap19⟩ : Pt)]) (by simp) (Nat.le_refl 2)
  refine WL_pk0 ?_
  refine WL_pull (arr a cap 1 5 (eU .u8) (rM M)) ?_
  refine WL_pull (arr a19 cap19 1 5 (eU .u8) (padM M.length)) ?_
  refine WL_pull (arr (some b31) 2 1 23 fP [(⟨rM M, a.map (fun g => ⟨g, 0, none⟩), cap⟩ : Pt), (⟨padM M.length, a19.map (fun g => ⟨g, 0, none⟩), cap19⟩ : Pt)]) ?_
  have hj2 : joinP [(⟨rM M, a.map (fun g => ⟨g, 0, none⟩), cap⟩ : Pt), (⟨padM M.length, a19.map (fun g => ⟨g, 0, none⟩), cap19⟩ : Pt)] = tlM M := joinP_two _ _
  refine WL_ac (Ac_call cf82 rfl (hs := join_ct (X := sep [arr (some b31) 2 1 23 fP [(⟨rM M, a.map (fun g => ⟨g, 0, none⟩), cap⟩ : Pt), (⟨padM M.length, a19.map (fun g => ⟨g, 0, none⟩), cap19⟩ : Pt)], arr a19 cap19 1 5 (eU .u8) (padM M.length), arr a cap 1 5 (eU .u8) (rM M)]) (ps := [(⟨rM M, a.map (fun g => ⟨g, 0, none⟩), cap⟩ : Pt), (⟨padM M.length, a19.map (fun g => ⟨g, 0, none⟩), cap19⟩ : Pt)]) (hS := hS3.pk (by repeat (first | with_reducible exact Has.here | with_reducible refine Has.there ?_))) (hP := List.forall_mem_cons.2 ⟨hS1.pk (by repeat (first | with_reducible exact Has.here | with_reducible refine Has.there ?_)), List.forall_mem_cons.2 ⟨hS2.pk (by repeat (first | with_reducible exact Has.here | with_reducible refine Has.there ?_)), by simp⟩⟩) (hn := by rw [hj2]; omega) (hk := by show 2 ≤ 900000000000; omega))) rfl rfl rfl ?_
  rintro _ _ ⟨⟨a32, cap32⟩, rfl, hA⟩
  simp only [List.cons_append, List.nil_append] at hA
  replace hA := hA.symm
  subst hA
  refine WL_unpk [arr (some b31) 2 1 23 fP [(⟨rM M, a.map (fun g => ⟨g, 0, none⟩), cap⟩ : Pt), (⟨padM M.length, a19.map (fun g => ⟨g, 0, none⟩), cap19⟩ : Pt)], arr a19 cap19 1 5 (eU .u8) (padM M.length), arr a cap 1 5 (eU .u8) (rM M)] ?_
  simp only [List.cons_append, List.nil_append]
  rw [hj2]
  refine WL_fact (fun w h => arr_facts (a := a32) (cap := cap32) (e := 1) (T := 5) (f := eU .u8 (w := 8)) (l := tlM M) (by repeat (first | with_reducible exact Has.here | with_reducible refine Has.there ?_)) h) (fun hf3 => ?_)
  have hSt : Sv [arr a32 cap32 1 5 (eU .u8) (tlM M)] (sl a32 (tlM M).length cap32) 1 (eU .u8 (w := 8)) (tlM M) (a32.map fun g => ⟨g, 0, none⟩) cap32 := Sv_own' (encU .u8 (w := 8)) hf3.1 hf3.2
  refine WL_rd (Rd_assign rfl) rfl rfl rfl ?_
  refine WL_end hK7 ?_
  refine WC_seq fun K8 hK8 => ?_
  refine WC_block ?_
  rw [show arr (some b6) 8 1 117 (eU .u32) (hM M) = arr (some b6) 8 1 117 (eU .u32) (blkI (M ++ padM M.length) (M.length / 64 + 0)) from by rw [Nat.add_zero, hM_at]]
  refine WC_loop (σ := Nat × Value × (Option Addr) × Nat) (fun ⟨j, v', ao', cap'⟩ => [(0, .pointer (some ⟨b, 0, none⟩)), (2, .pointer (some ⟨b2, 0, none⟩)), (3, .pointer (some ⟨b3, 0, none⟩)), (6, .pointer (some ⟨b6, 0, none⟩)), (7, v')]) (fun ⟨j, v', ao', cap'⟩ => cl b 119 (hsh (hM M) (sl a (rM M).length cap) (.int .i64 ((M.length : Nat) : Int))) :: arr a cap 1 5 (eU .u8) (rM M) :: arr a32 cap32 1 5 (eU .u8) (tlM M) :: arr (some b2) 32 1 43 (eU .u8 (w := 8)) (List.replicate 32 0#8) :: arr (some b3) 32 1 43 (eU .u8 (w := 8)) (List.replicate 32 0#8) :: arr (some b6) 8 1 117 (eU .u32) (blkI (M ++ padM M.length) (M.length / 64 + j)) :: F) (fun ⟨j, v', ao', cap'⟩ => 64 * j ≤ (tlM M).length ∧ Sv [arr a32 cap32 1 5 (eU .u8) (tlM M)] v' 1 (eU .u8) ((tlM M).drop (64 * j)) ao' cap') (fun ⟨j, v', ao', cap'⟩ => (tlM M).length - 64 * j) ⟨0, sl a32 (tlM M).length cap32, a32.map fun g => ⟨g, 0, none⟩, cap32⟩ ?_ ?_ ?_ ?_
  · exact ⟨by omega, by rw [Nat.mul_zero, List.drop_zero]; exact hSt⟩
  · exact (Wk.cons (by first | rfl | (simp only [List.length_append, List.length_cons, List.length_nil, List.length_replicate, Nat.zero_add]; rfl) | (simp; done)) (Wk.cons (by first | rfl | (simp only [List.length_append, List.length_cons, List.length_nil, List.length_replicate, Nat.zero_add]; rfl) | (simp; done)) (Wk.cons (by first | rfl | (simp only [List.length_append, List.length_cons, List.length_nil, List.length_replicate, Nat.zero_add]; rfl) | (simp; done)) (Wk.cons (by first | rfl | (simp only [List.length_append, List.length_cons, List.length_nil, List.length_replicate, Nat.zero_add]; rfl) | (simp; done)) (Wk.cons (by first | rfl | (simp only [List.length_append, List.length_cons, List.length_nil, List.length_replicate, Nat.zero_add]; rfl) | (simp; done)) Wk.nil)))))
  · repeat (first | with_reducible exact Sub.refl | with_reducible exact Sub.nil | with_reducible refine Sub.cons (by repeat (first | with_reducible exact Ext.here | with_reducible apply Ext.there)) ?_ | with_reducible refine Sub.tail ?_)
  · rintro ⟨j, v', ao', cap'⟩ ⟨hj, hS'⟩ K9 hK9
    dsimp only at *
    have hdl2 : ((tlM M).drop (64 * j)).length = (tlM M).length - 64 * j := by rw [List.length_drop]
    have hbl := blkI_len (M ++ padM M.length) (M.length / 64 + j)
    have hbl2 := blkI_len (M ++ padM M.length) (M.length / 64 + (j + 1))
    refine WC_seq fun K10 hK10 => ?_
    refine WC_sr fun K11 hK11 => ?_
    refine WL_rd (Rd_move rfl) rfl rfl rfl ?_
    refine WL_rd (Rd_len_sv rfl rfl ud23) rfl rfl rfl ?_
    refine WL_rd (Rd_gtrN (j := 0) rfl rfl) rfl rfl rfl ?_
    refine WL_end hK11 ?_
    refine WC_cond rfl (fun hc1 => ?_) (fun hc1 => ?_)
    · try simp only [decide_eq_true_eq, decide_eq_false_iff_not, Bool.not_eq_true', Bool.not_eq_false', Bool.not_eq_true, Bool.not_eq_false, Int.not_lt, Int.not_le, Nat.not_lt, Nat.not_le, Decidable.not_not, ne_eq] at hc1
      have hlt : 64 * j < (tlM M).length := by omega
      have hb64 : (((tlM M).drop (64 * j)).take 64).length = 64 := by rw [List.length_take]; omega
      refine WC_skip ?_
      refine Ps_next hK10 ?_
      refine WC_block ?_
      refine WC_seq fun K12 hK12 => ?_
      refine WC_drawA mix (fun i => ([2, 2, 2, 2, 1, 0] : List Nat).getD i 0) ?_
      refine WJ_tk 0 (Rd_loadW rfl tk117) hp ?_ rfl (by kernel_rfl) rfl rfl rfl
      refine WJ_takeP 1 rfl (by kernel_rfl) (Rd_move rfl) rfl rfl rfl (hp _ _) ?_
      refine WJ_tk 2 (Rd_s2a rfl ud80 (hA := hS')) hp ?_ rfl (by kernel_rfl) rfl rfl rfl
      refine WJ_tk 3 (Rd_loadW_sv rfl tk80 (hA := hS')) hp ?_ rfl (by kernel_rfl) rfl rfl rfl
      refine WJ_all (rs := [4]) (by kernel_rfl) rfl ?_
      refine WI_one ?_
      refine WI_ac rfl (Ac_call cf89 rfl (hs := mix_ct)) rfl rfl rfl rfl ?_
      rintro _ _ ⟨⟨⟩, rfl, hA⟩
      simp only [List.cons_append, List.nil_append] at hA
      replace hA := hA.symm
      subst hA
      rw [tlM_blk hlt, blkI_succ, Nat.add_assoc (M.length / 64) j 1]
      refine ⟨(fun _ => (by repeat (first | with_reducible exact Sub.refl | with_reducible exact Sub.nil | with_reducible refine Sub.cons (by repeat (first | with_reducible exact Ext.here | with_reducible apply Ext.there)) ?_ | with_reducible refine Sub.tail ?_))), ?_⟩
      refine WJ_all (rs := [5]) (by kernel_rfl) rfl ?_
      refine WI_one ?_
      refine WI_ac0 rfl (Ac_storeW rfl rfl sz117) rfl rfl rfl ?_
      rintro _ _ rfl
      refine ⟨(fun h => by cases h), ?_⟩
      refine WJ_done (by kernel_rfl) ?_
      refine Ps_next hK12 ?_
      refine WC_region ?_
      refine WL_rd (Rd_move rfl) rfl rfl rfl ?_
      refine WL_rd (Rd_slice_sv 64 _ rfl ⟨_, rfl⟩ rfl ud23 sz5 (hA := hS')) rfl rfl rfl ?_
      have hS2' : Sv [arr a32 cap32 1 5 (eU .u8) (tlM M)] (.slice (sao ao' 64 1 cap') (((tlM M).drop (64 * j)).length - 64) (cap' - 64)) 1 (eU .u8) ((tlM M).drop (64 * (j + 1))) (sao ao' 64 1 cap') (cap' - 64) := by have h := hS'.sub (lo := 64) (hi := ((tlM M).drop (64 * j)).length) (by omega) (Nat.le_refl _); rw [List.take_length, List.drop_drop, show 64 * j + 64 = 64 * (j + 1) from by omega] at h; exact h
      refine WL_rd (Rd_assign rfl) rfl rfl rfl ?_
      refine WL_nil ?_
      refine Ps_wk ((Wk.cons (by first | rfl | (simp only [List.length_append, List.length_cons, List.length_nil, List.length_replicate, Nat.zero_add]; rfl) | (simp; done)) (Wk.cons (by first | rfl | (simp only [List.length_append, List.length_cons, List.length_nil, List.length_replicate, Nat.zero_add]; rfl) | (simp; done)) (Wk.cons (by first | rfl | (simp only [List.length_append, List.length_cons, List.length_nil, List.length_replicate, Nat.zero_add]; rfl) | (simp; done)) (Wk.cons (by first | rfl | (simp only [List.length_append, List.length_cons, List.length_nil, List.length_replicate, Nat.zero_add]; rfl) | (simp; done)) (Wk.cons (by first | rfl | (simp only [List.length_append, List.length_cons, List.length_nil, List.length_replicate, Nat.zero_add]; rfl) | (simp; done)) Wk.nil)))))) (by first | with_reducible exact Sub.refl | ((try dsimp only); repeat (first | with_reducible exact Sub.refl | with_reducible exact Sub.nil | with_reducible refine Sub.cons (by repeat (first | with_reducible exact Ext.here | with_reducible apply Ext.there)) ?_ | with_reducible refine Sub.tail ?_))) (hK9 ⟨j + 1, _, sao ao' 64 1 cap', cap' - 64⟩ (⟨by dsimp only; omega, hS2'⟩) (by dsimp only; omega))
    · try simp only [decide_eq_true_eq, decide_eq_false_iff_not, Bool.not_eq_true', Bool.not_eq_false', Bool.not_eq_true, Bool.not_eq_false, Int.not_lt, Int.not_le, Nat.not_lt, Nat.not_le, Decidable.not_not, ne_eq] at hc1
      obtain rfl : j = (tlM M).length / 64 := by omega
      have hbe := blkI_len (M ++ padM M.length) ((M.length + (padM M.length).length) / 64)
      rw [htl.2.1]
      refine WC_exit ?_
      refine Ps_next hK8 ?_
      refine WC_seq fun K13 hK13 => ?_
      refine WC_sr fun K14 hK14 => ?_
      refine WL_rd (Rd_loadW rfl tk117) rfl rfl rfl ?_
      refine WL_rd (Rd_aU (k := .u32) (l := List.replicate 8 0#32) (Rd_build pls117 rfl) (by rfl)) rfl rfl rfl ?_
      refine WL_rd (Rd_eqW rfl rfl ais117) rfl rfl rfl ?_
      refine WL_end hK14 ?_
      refine WC_cond rfl (fun hc2 => ?_) (fun hc2 => ?_)
      · try simp only [decide_eq_true_eq, decide_eq_false_iff_not, Bool.not_eq_true', Bool.not_eq_false', Bool.not_eq_true, Bool.not_eq_false, Int.not_lt, Int.not_le, Nat.not_lt, Nat.not_le, Decidable.not_not, ne_eq] at hc2
        have hz8 : blkI (M ++ padM M.length) ((M.length + (padM M.length).length) / 64) = List.replicate 8 0#32 := by simpa using hc2
        have hdz : dgM M = List.replicate 32 0#8 := by unfold dgM; rw [hz8]; exact putI_nought
        rw [hdz] at hret
        refine WC_sr fun K15 hK15 => ?_
        refine WL_rd (Rd_loadW rfl tk43) rfl rfl rfl ?_
        refine WL_ac0 (Ac_storeW rfl rfl sz43) rfl rfl ?_
        rintro _ _ rfl
        refine WL_end hK15 ?_
        refine WC_ret ?_
        exact hret.go () (Rs1W rfl rfl tk43)
      · try simp only [decide_eq_true_eq, decide_eq_false_iff_not, Bool.not_eq_true', Bool.not_eq_false', Bool.not_eq_true, Bool.not_eq_false, Int.not_lt, Int.not_le, Nat.not_lt, Nat.not_le, Decidable.not_not, ne_eq] at hc2
        refine WC_skip ?_
        refine Ps_next hK13 ?_
        refine WC_seq fun K16 hK16 => ?_
        refine WC_sr fun K17 hK17 => ?_
        refine WL_rd (Rd_loadW rfl tk117) rfl rfl rfl ?_
        refine WL_rd (Rd_move rfl) rfl rfl rfl ?_
        refine WL_end hK17 ?_
        refine WC_block ?_
        rw [show arr (some b3) 32 1 43 (eU .u8 (w := 8)) (List.replicate 32 0#8) = arr (some b3) 32 1 43 (eU .u8 (w := 8)) (putI (blkI (M ++ padM M.length) ((M.length + (padM M.length).length) / 64)) 0) from rfl]
        refine WC_loop (σ := Nat) (fun i2 => [(0, .pointer (some ⟨b, 0, none⟩)), (2, .pointer (some ⟨b2, 0, none⟩)), (3, .pointer (some ⟨b3, 0, none⟩)), (6, .pointer (some ⟨b6, 0, none⟩)), (47, aU .u32 (blkI (M ++ padM M.length) ((M.length + (padM M.length).length) / 64))), (48, .int .i64 ((i2 : Nat) : Int))]) (fun i2 => cl b 119 (hsh (hM M) (sl a (rM M).length cap) (.int .i64 ((M.length : Nat) : Int))) :: arr a cap 1 5 (eU .u8) (rM M) :: arr (some b2) 32 1 43 (eU .u8 (w := 8)) (List.replicate 32 0#8) :: arr (some b3) 32 1 43 (eU .u8 (w := 8)) (putI (blkI (M ++ padM M.length) ((M.length + (padM M.length).length) / 64)) i2) :: F) (fun i2 => i2 ≤ 8) (fun i2 => 8 - i2) (0) ?_ ?_ ?_ ?_
        · exact Nat.zero_le _
        · exact (Wk.cons (by first | rfl | (simp only [List.length_append, List.length_cons, List.length_nil, List.length_replicate, Nat.zero_add]; rfl) | (simp; done)) (Wk.cons (by first | rfl | (simp only [List.length_append, List.length_cons, List.length_nil, List.length_replicate, Nat.zero_add]; rfl) | (simp; done)) (Wk.cons (by first | rfl | (simp only [List.length_append, List.length_cons, List.length_nil, List.length_replicate, Nat.zero_add]; rfl) | (simp; done)) (Wk.cons (by first | rfl | (simp only [List.length_append, List.length_cons, List.length_nil, List.length_replicate, Nat.zero_add]; rfl) | (simp; done)) (Wk.cons (by first | rfl | (simp only [List.length_append, List.length_cons, List.length_nil, List.length_replicate, Nat.zero_add]; rfl) | (simp; done)) (Wk.cons (by first | rfl | (simp only [List.length_append, List.length_cons, List.length_nil, List.length_replicate, Nat.zero_add]; rfl) | (simp; done)) Wk.nil))))))
        · repeat (first | with_reducible exact Sub.refl | with_reducible exact Sub.nil | with_reducible refine Sub.cons (by repeat (first | with_reducible exact Ext.here | with_reducible apply Ext.there)) ?_ | with_reducible refine Sub.tail ?_)
        · rintro i2 hi2 K18 hK18
          refine WC_sr fun K19 hK19 => ?_
          refine WL_rd (Rd_lssN (j := 8) rfl rfl) rfl rfl rfl ?_
          refine WL_end hK19 ?_
          refine WC_seq fun K20 hK20 => ?_
          refine WC_cond rfl (fun hc3 => ?_) (fun hc3 => ?_)
          · try simp only [decide_eq_true_eq, decide_eq_false_iff_not, Bool.not_eq_true', Bool.not_eq_false', Bool.not_eq_true, Bool.not_eq_false, Int.not_lt, Int.not_le, Nat.not_lt, Nat.not_le, Decidable.not_not, ne_eq] at hc3
            refine WC_skip ?_
            refine Ps_next hK20 ?_
            refine WC_seq fun K21 hK21 => ?_
            refine WC_block ?_
            refine WC_sr fun K22 hK22 => ?_
            refine WL_rd (Rd_move rfl) rfl rfl rfl ?_
            refine WL_rd (Rd_indexU i2 rfl rfl ud117 tk44 sz44) rfl rfl rfl ?_
            refine WL_rd (Rd_assign rfl) rfl rfl rfl ?_
            refine WL_rd (Rd_assign rfl) rfl rfl rfl ?_
            refine WL_end hK22 ?_
            refine WC_drawA mix (fun i => ([2, 2, 2, 2, 1, 0] : List Nat).getD i 0) ?_
            refine WJ_takeP 0 rfl (by kernel_rfl) (Rd_move rfl) rfl rfl rfl (hp _ _) ?_
            refine WJ_takeP 1 rfl (by kernel_rfl) (Rd_mulN (i := 4) rfl rfl) rfl rfl rfl (hp _ _) ?_
            refine WJ_takeP 2 rfl (by kernel_rfl) (Rd_sliceA (4 * i2) rfl rfl ud43 sz5) rfl rfl rfl (hp _ _) ?_
            refine WJ_takeP 3 rfl (by kernel_rfl) (Rd_move rfl) rfl rfl rfl (hp _ _) ?_
            refine WJ_all (rs := [4]) (by kernel_rfl) rfl ?_
            refine WI_one ?_
            refine WI_ac rfl (Ac_call cf38 rfl (hs := bigu32_ct)) rfl rfl rfl rfl ?_
            rintro _ _ ⟨g56, rfl, hA⟩
            simp only [List.cons_append, List.nil_append] at hA
            replace hA := hA.symm
            subst hA
            refine ⟨(fun _ => (by repeat (first | with_reducible exact Sub.refl | with_reducible exact Sub.nil | with_reducible refine Sub.cons (by repeat (first | with_reducible exact Ext.here | with_reducible apply Ext.there)) ?_ | with_reducible refine Sub.tail ?_))), ?_⟩
            refine WJ_all (rs := [5]) (by kernel_rfl) rfl ?_
            refine WI_one ?_
            have hSb := Sv_own' (a := some g56) (cap := 4) (T := 5) (encU .u8 (w := 8)) (l := big32 ((blkI (M ++ padM M.length) ((M.length + (padM M.length).length) / 64)).getD i2 0#32)) (by simp) (by rw [big32_len]; exact Nat.le_refl _)
            have hb4 := big32_len ((blkI (M ++ padM M.length) ((M.length + (padM M.length).length) / 64)).getD i2 0#32)
            rw [hb4] at hSb
            have hpi := putI_len (blkI (M ++ padM M.length) ((M.length + (padM M.length).length) / 64)) i2 (by omega)
            refine WI_ac rfl (Ac_copyU (s := big32 ((blkI (M ++ padM M.length) ((M.length + (padM M.length).length) / 64)).getD i2 0#32)) rfl rfl rfl ud23 sz5 (hS := hSb)) rfl rfl rfl rfl ?_
            rintro _ _ ⟨rfl, rfl⟩
            refine ⟨(fun h => by cases h), ?_⟩
            rw [hb4, putI_succ]
            refine WJ_done (by kernel_rfl) ?_
            refine Ps_next hK21 ?_
            refine WC_region ?_
            refine WL_rd (Rd_addN (j := 1) rfl rfl) rfl rfl rfl ?_
            refine WL_rd (Rd_move rfl) rfl rfl rfl ?_
            refine WL_nil ?_
            refine Ps_wk ((Wk.cons (by first | rfl | (simp only [List.length_append, List.length_cons, List.length_nil, List.length_replicate, Nat.zero_add]; rfl) | (simp; done)) (Wk.cons (by first | rfl | (simp only [List.length_append, List.length_cons, List.length_nil, List.length_replicate, Nat.zero_add]; rfl) | (simp; done)) (Wk.cons (by first | rfl | (simp only [List.length_append, List.length_cons, List.length_nil, List.length_replicate, Nat.zero_add]; rfl) | (simp; done)) (Wk.cons (by first | rfl | (simp only [List.length_append, List.length_cons, List.length_nil, List.length_replicate, Nat.zero_add]; rfl) | (simp; done)) (Wk.cons (by first | rfl | (simp only [List.length_append, List.length_cons, List.length_nil, List.length_replicate, Nat.zero_add]; rfl) | (simp; done)) (Wk.cons (by first | rfl | (simp only [List.length_append, List.length_cons, List.length_nil, List.length_replicate, Nat.zero_add]; rfl) | (simp; done)) Wk.nil))))))) (by first | with_reducible exact Sub.refl | ((try dsimp only); repeat (first | with_reducible exact Sub.refl | with_reducible exact Sub.nil | with_reducible refine Sub.cons (by repeat (first | with_reducible exact Ext.here | with_reducible apply Ext.there)) ?_ | with_reducible refine Sub.tail ?_))) (hK18 (i2 + 1) (by omega) (by omega))
          · try simp only [decide_eq_true_eq, decide_eq_false_iff_not, Bool.not_eq_true', Bool.not_eq_false', Bool.not_eq_true, Bool.not_eq_false, Int.not_lt, Int.not_le, Nat.not_lt, Nat.not_le, Decidable.not_not, ne_eq] at hc3
            obtain rfl : i2 = 8 := by omega
            rw [show putI (blkI (M ++ padM M.length) ((M.length + (padM M.length).length) / 64)) 8 = dgM M from rfl]
            refine WC_exit ?_
            refine Ps_next hK16 ?_
            refine WC_sr fun K23 hK23 => ?_
            refine WL_rd (Rd_loadW rfl tk43) rfl rfl rfl ?_
            refine WL_ac0 (Ac_storeW rfl rfl sz43) rfl rfl ?_
            rintro _ _ rfl
            refine WL_end hK23 ?_
            refine WC_ret ?_
            exact hret.go () (Rs1W rfl rfl tk43)
end Go.Proofs.Ytlcafifjhilleaa
namespace Go.Proofs.Ytlcafifjhilleaa
open Go.RowKit Go.SL Go.ShM
set_option maxHeartbeats 1000000
set_option maxRecDepth 20000
set_option linter.all false
theorem cf79 : cfn Try.prog 79 = true := by kernel_rfl
theorem cf80 : cfn Try.prog 80 = true := by kernel_rfl
theorem cf81 : cfn Try.prog 81 = true := by kernel_rfl
theorem sum_ct {X : Asn} {v : Value} {ps : List Pt} {ao : Option Addr} {cap2 : Nat} (hS : Sv [X] v 1 fP ps ao cap2 := by assumption) (hP : ∀ p ∈ ps, RdP [X] p := by assumption) (hn : (joinP ps).length ≤ 900000000000 := by omega) (hk : ps.length ≤ 900000000000 := by omega) : Ct Try.prog 50 [v] [X] (fun _ : Unit => aU .u8 (dgM (joinP ps))) (fun _ => [X]) := by
  refine Ct_body (n := 19) Try.func50 rfl rfl rfl fun F w0 Q hret hnorm hp => ?_
  change WC _ _ _ _ _ _ _ (_ :: F)
  have hdl := dgM_len (joinP ps)
  refine WC_sr fun K1 hK1 => ?_
  refine WL_ac (Ac_allocW (k := .u8) (w := 8) (m := 32) zr43) rfl rfl rfl ?_
  rintro _ _ ⟨b2, rfl, rfl⟩
  refine WL_end hK1 ?_
  refine WC_sr fun K2 hK2 => ?_
  refine WL_ac (Ac_call cf79 rfl (hs := new_ct)) rfl rfl rfl ?_
  rintro _ _ ⟨b6, rfl, hA⟩
  simp only [List.cons_append, List.nil_append] at hA
  replace hA := hA.symm
  subst hA
  refine WL_rd (Rd_assign rfl) rfl rfl rfl ?_
  refine WL_end hK2 ?_
  refine WC_seq fun K3 hK3 => ?_
  refine WC_sr fun K4 hK4 => ?_
  refine WL_rd (Rd_move rfl) rfl rfl rfl ?_
  refine WL_rd (Rd_len_sv rfl rfl ud22) rfl rfl rfl ?_
  refine WL_rd (Rd_move rfl) rfl rfl rfl ?_
  refine WL_end hK4 ?_
  refine WC_block ?_
  rw [show ([] : List B8) = joinP (ps.take 0) from rfl]
  refine WC_loop (σ := Nat × (Option Nat) × Nat) (fun ⟨i', a, cap⟩ => [(0, v), (2, .pointer (some ⟨b2, 0, none⟩)), (3, .pointer (some ⟨b6, 0, none⟩)), (7, v), (8, .int .i64 ((ps.length : Nat) : Int)), (9, .int .i64 ((i' : Nat) : Int))]) (fun ⟨i', a, cap⟩ => cl b6 119 (hsh (hM (joinP (ps.take i'))) (sl a (rM (joinP (ps.take i'))).length cap) (.int .i64 (((joinP (ps.take i')).length : Nat) : Int))) :: arr a cap 1 5 (eU .u8) (rM (joinP (ps.take i'))) :: X :: arr (some b2) 32 1 43 (eU .u8 (w := 8)) (List.replicate 32 0#8) :: F) (fun ⟨i', a, cap⟩ => i' ≤ ps.length) (fun ⟨i', a, cap⟩ => ps.length - i') ⟨0, none, 0⟩ ?_ ?_ ?_ ?_
  · exact Nat.zero_le _
  · exact (Wk.cons (by first | rfl | (simp only [List.length_append, List.length_cons, List.length_nil, List.length_replicate, Nat.zero_add]; rfl) | (simp; done)) (Wk.cons (by first | rfl | (simp only [List.length_append, List.length_cons, List.length_nil, List.length_replicate, Nat.zero_add]; rfl) | (simp; done)) (Wk.cons (by first | rfl | (simp only [List.length_append, List.length_cons, List.length_nil, List.length_replicate, Nat.zero_add]; rfl) | (simp; done)) (Wk.cons (by first | rfl | (simp only [List.length_append, List.length_cons, List.length_nil, List.length_replicate, Nat.zero_add]; rfl) | (simp; done)) (Wk.cons (by first | rfl | (simp only [List.length_append, List.length_cons, List.length_nil, List.length_replicate, Nat.zero_add]; rfl) | (simp; done)) (Wk.cons (by first | rfl | (simp only [List.length_append, List.length_cons, List.length_nil, List.length_replicate, Nat.zero_add]; rfl) | (simp; done)) Wk.nil))))))
  · repeat (first | with_reducible exact Sub.refl | with_reducible exact Sub.nil | with_reducible refine Sub.cons (by repeat (first | with_reducible exact Ext.here | with_reducible apply Ext.there)) ?_ | with_reducible refine Sub.tail ?_)
  · rintro ⟨i', a, cap⟩ hi K5 hK5
    refine WC_sr fun K6 hK6 => ?_
    refine WL_rd (Rd_lssN rfl rfl) rfl rfl rfl ?_
    refine WL_end hK6 ?_
    refine WC_seq fun K7 hK7 => ?_
    refine WC_cond rfl (fun hc0 => ?_) (fun hc0 => ?_)
    · try simp only [decide_eq_true_eq, decide_eq_false_iff_not, Bool.not_eq_true', Bool.not_eq_false', Bool.not_eq_true, Bool.not_eq_false, Int.not_lt, Int.not_le, Nat.not_lt, Nat.not_le, Decidable.not_not, ne_eq] at hc0
      dsimp only
      obtain ⟨p, hp⟩ : ∃ p, ps[i']? = some p := ⟨_, List.getElem?_eq_getElem (by omega)⟩
      have hpS : Sv [X] p.v 1 (eU .u8 (w := 8)) p.l p.ao p.cap := hP p (List.mem_of_getElem? hp)
      have hpl := joinP_len hp
      have hle := joinP_le ps (i' + 1)
      refine WC_skip ?_
      refine Ps_next hK7 ?_
      refine WC_seq fun K8 hK8 => ?_
      refine WC_block ?_
      refine WC_sr fun K9 hK9 => ?_
      refine WL_rd (Rd_index_sv i' rfl rfl ud22 sz23 (hA := hS) (hi := by omega)) rfl rfl rfl ?_
      refine WL_rd (Rd_load_sv (i := i') (j := 0) rfl tk23 (hA := hS) (hl := hp)) rfl rfl rfl ?_
      refine WL_rd (Rd_assign rfl) rfl rfl rfl ?_
      refine WL_end hK9 ?_
      refine WC_region ?_
      refine WL_rd (Rd_move rfl) rfl rfl rfl ?_
      refine WL_rd (Rd_move rfl) rfl rfl rfl ?_
      refine WL_ac (Ac_call cf80 rfl (hs := write_ct (M := joinP (ps.take i')) (hS := hpS))) rfl rfl rfl ?_
      rintro _ _ ⟨⟨a15, cap15⟩, rfl, hA⟩
      simp only [List.cons_append, List.nil_append] at hA
      replace hA := hA.symm
      subst hA
      rw [joinP_take hp]
      refine WL_nil ?_
      refine Ps_next hK8 ?_
      refine WC_region ?_
      refine WL_rd (Rd_addN (j := 1) rfl rfl) rfl rfl rfl ?_
      refine WL_rd (Rd_move rfl) rfl rfl rfl ?_
      refine WL_nil ?_
      refine Ps_wk ((Wk.cons (by first | rfl | (simp only [List.length_append, List.length_cons, List.length_nil, List.length_replicate, Nat.zero_add]; rfl) | (simp; done)) (Wk.cons (by first | rfl | (simp only [List.length_append, List.length_cons, List.length_nil, List.length_replicate, Nat.zero_add]; rfl) | (simp; done)) (Wk.cons (by first | rfl | (simp only [List.length_append, List.length_cons, List.length_nil, List.length_replicate, Nat.zero_add]; rfl) | (simp; done)) (Wk.cons (by first | rfl | (simp only [List.length_append, List.length_cons, List.length_nil, List.length_replicate, Nat.zero_add]; rfl) | (simp; done)) (Wk.cons (by first | rfl | (simp only [List.length_append, List.length_cons, List.length_nil, List.length_replicate, Nat.zero_add]; rfl) | (simp; done)) (Wk.cons (by first | rfl | (simp only [List.length_append, List.length_cons, List.length_nil, List.length_replicate, Nat.zero_add]; rfl) | (simp; done)) Wk.nil))))))) (by first | with_reducible exact Sub.refl | ((try dsimp only); repeat (first | with_reducible exact Sub.refl | with_reducible exact Sub.nil | with_reducible refine Sub.cons (by repeat (first | with_reducible exact Ext.here | with_reducible apply Ext.there)) ?_ | with_reducible refine Sub.tail ?_))) (hK5 ⟨i' + 1, a15, cap15⟩ (by dsimp only; omega) (by dsimp only; omega))
    · try simp only [decide_eq_true_eq, decide_eq_false_iff_not, Bool.not_eq_true', Bool.not_eq_false', Bool.not_eq_true, Bool.not_eq_false, Int.not_lt, Int.not_le, Nat.not_lt, Nat.not_le, Decidable.not_not, ne_eq] at hc0
      obtain rfl : i' = ps.length := by omega
      dsimp only
      rw [joinP_all (Nat.le_refl _)]
      refine WC_exit ?_
      refine Ps_next hK3 ?_
      refine WC_sr fun K10 hK10 => ?_
      refine WL_rd (Rd_move rfl) rfl rfl rfl ?_
      refine WL_ac (Ac_call cf81 rfl (hs := hsum_ct (M := joinP ps))) rfl rfl rfl ?_
      rintro _ _ ⟨⟨⟩, rfl, hA⟩
      simp only [List.cons_append, List.nil_append] at hA
      replace hA := hA.symm
      subst hA
      refine WL_ac0 (Ac_storeW rfl rfl sz43) rfl rfl ?_
      rintro _ _ rfl
      refine WL_end hK10 ?_
      refine WC_ret ?_
      exact hret.go () (Rs1W rfl rfl tk43)
end Go.Proofs.Ytlcafifjhilleaa
namespace Go.Proofs.Ytlcafifjhilleaa
open Go.RowKit Go.SL Go.ShM
set_option maxHeartbeats 1000000
set_option maxRecDepth 20000
set_option linter.all false

end Go.Proofs.Ytlcafifjhilleaa
namespace Go.Proofs.Ytlcafifjhilleaa
open Go.RowKit Go.SL Go.ShM
set_option maxHeartbeats 1000000
set_option maxRecDepth 20000
set_option linter.all false
theorem pls43 : pls Try.prog 43 = some ([.int .u8 0, .int .u8 0, .int .u8 0, .int .u8 0, .int .u8 0, .int .u8 0, .int .u8 0, .int .u8 0, .int .u8 0, .int .u8 0, .int .u8 0, .int .u8 0, .int .u8 0, .int .u8 0, .int .u8 0, .int .u8 0, .int .u8 0, .int .u8 0, .int .u8 0, .int .u8 0, .int .u8 0, .int .u8 0, .int .u8 0, .int .u8 0, .int .u8 0, .int .u8 0, .int .u8 0, .int .u8 0, .int .u8 0, .int .u8 0, .int .u8 0, .int .u8 0], [(0, 1), (1, 1), (2, 1), (3, 1), (4, 1), (5, 1), (6, 1), (7, 1), (8, 1), (9, 1), (10, 1), (11, 1), (12, 1), (13, 1), (14, 1), (15, 1), (16, 1), (17, 1), (18, 1), (19, 1), (20, 1), (21, 1), (22, 1), (23, 1), (24, 1), (25, 1), (26, 1), (27, 1), (28, 1), (29, 1), (30, 1), (31, 1)]) := by kernel_rfl
end Go.Proofs.Ytlcafifjhilleaa
namespace Go.Proofs.Ytlcafifjhilleaa
open Go.RowKit Go.SL Go.ShM
set_option maxHeartbeats 1000000
set_option maxRecDepth 20000
set_option linter.all false

end Go.Proofs.Ytlcafifjhilleaa
namespace Go.Proofs.Ytlcafifjhilleaa
open Go.RowKit Go.SL Go.ShM
set_option maxHeartbeats 1000000
set_option maxRecDepth 20000
set_option linter.all false
theorem cf39 : cfn Try.prog 39 = true := by kernel_rfl
theorem cf40 : cfn Try.prog 40 = true := by kernel_rfl
theorem cf41 : cfn Try.prog 41 = true := by kernel_rfl
theorem ikd44_5 : ikd Try.prog 44 5 = some .u8 := by kernel_rfl
theorem zr80 : zr Try.prog 80 = some [.int .u8 0, .int .u8 0, .int .u8 0, .int .u8 0, .int .u8 0, .int .u8 0, .int .u8 0, .int .u8 0, .int .u8 0, .int .u8 0, .int .u8 0, .int .u8 0, .int .u8 0, .int .u8 0, .int .u8 0, .int .u8 0, .int .u8 0, .int .u8 0, .int .u8 0, .int .u8 0, .int .u8 0, .int .u8 0, .int .u8 0, .int .u8 0, .int .u8 0, .int .u8 0, .int .u8 0, .int .u8 0, .int .u8 0, .int .u8 0, .int .u8 0, .int .u8 0, .int .u8 0, .int .u8 0, .int .u8 0, .int .u8 0, .int .u8 0, .int .u8 0, .int .u8 0, .int .u8 0, .int .u8 0, .int .u8 0, .int .u8 0, .int .u8 0, .int .u8 0, .int .u8 0, .int .u8 0, .int .u8 0, .int .u8 0, .int .u8 0, .int .u8 0, .int .u8 0, .int .u8 0, .int .u8 0, .int .u8 0, .int .u8 0, .int .u8 0, .int .u8 0, .int .u8 0, .int .u8 0, .int .u8 0, .int .u8 0, .int .u8 0, .int .u8 0] := by kernel_rfl
theorem sumR_ct {X : Asn} {v : Value} {l : List B8} {ao : Option Addr} {cap2 : Nat} (hS : Sv [X] v 1 (eU .u8 (w := 8)) l ao cap2 := by assumption) (hl : l.length ≤ 900000000000 := by omega) : Ct Try.prog 14 [v] [X] (fun _ : Unit => aU .u8 (dgM l)) (fun _ => [X]) := by
  refine Ct_body (n := 65) Try.func14 rfl rfl rfl fun F w0 Q hret hnorm hp => ?_
  change WC _ _ _ _ _ _ _ (_ :: F)
  have hn0 : ([] : List B8).length = 0 := rfl
  have hil := iniM_len
  have hpl := padM_len l.length
  have hpz := padZ_lt l.length
  have hfl := full_len l
  have hfm := full_mod l
  have hdl := dgM_len l
  rw [dgM_eq] at hdl
  refine WC_sr fun K1 hK1 => ?_
  refine WL_ac (Ac_allocW (k := .u8) (w := 8) (m := 32) zr43) rfl rfl rfl ?_
  rintro _ _ ⟨b2, rfl, rfl⟩
  refine WL_end hK1 ?_
  refine WC_sr fun K2 hK2 => ?_
  refine WL_rd (Rd_assign (v := sl none 0 0) rfl) rfl rfl rfl ?_
  refine WL_nilarr (eU .u8 (w := 8)) 1 5 ?_
  refine WL_end hK2 ?_
  refine WC_sr fun K3 hK3 => ?_
  refine WL_rd (Rd_move rfl) rfl rfl rfl ?_
  refine WL_rd (Rd_move rfl) rfl rfl rfl ?_
  refine WL_ac (Ac_appendS (f := (eU .u8 (w := 8))) (encU .u8) rfl rfl ud23 ud23 el5 (hS := hS)) rfl rfl rfl ?_
  rintro _ _ ⟨a14, cap14, rfl, rfl⟩
  rw [show ([] : List B8) ++ l = l from rfl]
  simp only [List.length_nil, Nat.zero_add]
  refine WL_rd (Rd_assign rfl) rfl rfl rfl ?_
  refine WL_end hK3 ?_
  refine WC_sr fun K4 hK4 => ?_
  refine WL_rd (Rd_move rfl) rfl rfl rfl ?_
  refine WL_rd (Rd_len_sv rfl rfl ud23) rfl rfl rfl ?_
  refine WL_ac (Ac_call cf39 rfl (hs := padR_ct (n := l.length))) rfl rfl rfl ?_
  rintro _ _ ⟨⟨a18, cap18⟩, rfl, hA⟩
  simp only [List.cons_append, List.nil_append] at hA
  replace hA := hA.symm
  subst hA
  refine WL_rd (Rd_move rfl) rfl rfl rfl ?_
  refine WL_rd (Rd_ext0 rfl) rfl rfl rfl ?_
  refine WL_rd (Rd_ext1 rfl) rfl rfl rfl ?_
  refine WL_rd (Rd_assign rfl) rfl rfl rfl ?_
  refine WL_rd (Rd_assign rfl) rfl rfl rfl ?_
  refine WL_end hK4 ?_
  refine WC_sr fun K5 hK5 => ?_
  refine WL_rd (Rd_move rfl) rfl rfl rfl ?_
  refine WL_rd (Rd_move rfl) rfl rfl rfl ?_
  refine WL_fact (fun w h => arr_facts (a := a18) (cap := cap18) (e := 1) (T := 5) (f := eU .u8 (w := 8)) (l := padM l.length) (by repeat (first | with_reducible exact Has.here | with_reducible refine Has.there ?_)) h) (fun hf2 => ?_)
  have hS2 : Sv [arr a18 cap18 1 5 (eU .u8) (padM l.length)] (sl a18 (padM l.length).length cap18) 1 (eU .u8 (w := 8)) (padM l.length) (a18.map fun g => ⟨g, 0, none⟩) cap18 := Sv_own' (encU .u8 (w := 8)) hf2.1 hf2.2
  refine WL_ac (Ac_appendS (f := (eU .u8 (w := 8))) (encU .u8) rfl rfl ud23 ud23 el5 (hS := hS2)) rfl rfl rfl ?_
  rintro _ _ ⟨a23, cap23, rfl, rfl⟩
  rw [show l ++ padM l.length = full l from rfl, ← full_len]
  refine WL_some (a := a23) (by repeat (first | with_reducible exact Has.here | with_reducible refine Has.there ?_)) (by omega) (fun gb hgb hcp => ?_)
  subst hgb
  refine WL_rd (Rd_assign rfl) rfl rfl rfl ?_
  refine WL_end hK5 ?_
  refine WC_sr fun K6 hK6 => ?_
  refine WL_ac (Ac_call cf40 rfl (hs := initR_ct)) rfl rfl rfl ?_
  rintro _ _ ⟨⟨⟩, rfl, hA⟩
  simp only [List.cons_append, List.nil_append] at hA
  replace hA := hA.symm
  subst hA
  refine WL_ac (Ac_allocW (k := .u32) (w := 32) (m := 8) zr78) rfl rfl rfl ?_
  rintro _ _ ⟨b6, rfl, rfl⟩
  refine WL_ac0 (Ac_storeW rfl rfl sz78) rfl rfl ?_
  rintro _ _ rfl
  refine WL_end hK6 ?_
  refine WC_seq fun K7 hK7 => ?_
  refine WC_sr fun K8 hK8 => ?_
  refine WL_rd (Rd_assign rfl) rfl rfl rfl ?_
  refine WL_end hK8 ?_
  refine WC_block ?_
  rw [show arr (some b6) 8 1 78 (eU .u32 (w := 32)) iniM = arr (some b6) 8 1 78 (eU .u32 (w := 32)) (blkI (full l) 0) from rfl]
  refine WC_loopK (σ := Nat) (fun c => [(7, .int .i64 (((64 * c) : Nat) : Int))]) (fun c => [arr (some b6) 8 1 78 (eU .u32 (w := 32)) (blkI (full l) c)]) (fun c => 64 * c ≤ (full l).length) (fun c => (full l).length - 64 * c) (0) [2, 3, 6, 10, 11, 47, 48, 49, 50, 51, 52, 53, 54, 55, 56, 57, 58, 59, 60, 61, 62, 63, 64] (by repeat (first | exact Kep.nil | apply Kep.drop rfl | apply Kep.keep rfl)) (by (try dsimp only); repeat (first | with_reducible exact Gv.nil | (with_reducible apply Gv.cons; · (repeat (first | with_reducible exact Ext.here | with_reducible apply Ext.there))))) ?_ ?_ Sub.refl ?_
  · omega
  · (try dsimp only); exact (Wk.cons (by first | rfl | (simp only [List.length_append, List.length_cons, List.length_nil, List.length_replicate, Nat.zero_add]; rfl) | (simp; done)) Wk.nil)
  · rintro c hc K9 hK9
    simp only [List.cons_append, List.nil_append]
    have hbl := blkI_len (full l) c
    have hbl2 := blkI_len (full l) (c + 1)
    refine WC_seq fun K10 hK10 => ?_
    refine WC_sr fun K11 hK11 => ?_
    refine WL_rd (Rd_move rfl) rfl rfl rfl ?_
    refine WL_rd (Rd_addN (j := 64) rfl rfl) rfl rfl rfl ?_
    refine WL_rd (Rd_move rfl) rfl rfl rfl ?_
    refine WL_rd (Rd_len rfl rfl ud23) rfl rfl rfl ?_
    refine WL_rd (Rd_leqN rfl rfl) rfl rfl rfl ?_
    refine WL_end hK11 ?_
    refine WC_cond rfl (fun hc0 => ?_) (fun hc0 => ?_)
    · try simp only [decide_eq_true_eq, decide_eq_false_iff_not, Bool.not_eq_true', Bool.not_eq_false', Bool.not_eq_true, Bool.not_eq_false, Int.not_lt, Int.not_le, Nat.not_lt, Nat.not_le, Decidable.not_not, ne_eq] at hc0
      refine WC_skip ?_
      refine Ps_next hK10 ?_
      refine WC_seq fun K12 hK12 => ?_
      refine WC_block ?_
      refine WC_sr fun K13 hK13 => ?_
      refine WL_ac (Ac_allocW (k := .u8) (w := 8) (m := 64) zr80) rfl rfl rfl ?_
      rintro _ _ ⟨b8, rfl, rfl⟩
      refine WL_end hK13 ?_
      refine WC_seq fun K14 hK14 => ?_
      refine WC_sr fun K15 hK15 => ?_
      refine WL_rd (Rd_assign rfl) rfl rfl rfl ?_
      refine WL_end hK15 ?_
      refine WC_block ?_
      have hbk : (blk (full l) c).length = 64 := blk_len (by omega)
      rw [show (List.replicate 64 0#8) = cpy 0#8 64 (blk (full l) c) 0 from (cpy_0 _ _ _).symm]
      refine WC_loopK (σ := Nat) (fun k => [(9, .int .i64 ((k : Nat) : Int))]) (fun k => [arr (some b8) 64 1 80 (eU .u8 (w := 8)) (cpy 0#8 64 (blk (full l) c) k)]) (fun k => k ≤ 64) (fun k => 64 - k) (0) [2, 3, 6, 7, 8, 10, 11, 25, 26, 27, 28, 29, 30, 31, 44, 45, 46, 47, 48, 49, 50, 51, 52, 53, 54, 55, 56, 57, 58, 59, 60, 61, 62, 63, 64] (by repeat (first | exact Kep.nil | apply Kep.drop rfl | apply Kep.keep rfl)) (by (try dsimp only); repeat (first | with_reducible exact Gv.nil | (with_reducible apply Gv.cons; · (repeat (first | with_reducible exact Ext.here | with_reducible apply Ext.there))))) ?_ ?_ Sub.refl ?_
      · omega
      · (try dsimp only); exact (Wk.cons (by first | rfl | (simp only [List.length_append, List.length_cons, List.length_nil, List.length_replicate, Nat.zero_add]; rfl) | (simp; done)) Wk.nil)
      · rintro k hk K16 hK16
        simp only [List.cons_append, List.nil_append]
        have hcl := cpy_len 0#8 hbk hk
        refine WC_seq fun K17 hK17 => ?_
        refine WC_sr fun K18 hK18 => ?_
        refine WL_rd (Rd_move rfl) rfl rfl rfl ?_
        refine WL_rd (Rd_lssN (j := 64) rfl rfl) rfl rfl rfl ?_
        refine WL_end hK18 ?_
        refine WC_cond rfl (fun hc1 => ?_) (fun hc1 => ?_)
        · try simp only [decide_eq_true_eq, decide_eq_false_iff_not, Bool.not_eq_true', Bool.not_eq_false', Bool.not_eq_true, Bool.not_eq_false, Int.not_lt, Int.not_le, Nat.not_lt, Nat.not_le, Decidable.not_not, ne_eq] at hc1
          refine WC_skip ?_
          refine Ps_next hK17 ?_
          refine WC_seq fun K19 hK19 => ?_
          refine WC_block ?_
          refine WC_region ?_
          refine WL_rd (Rd_move rfl) rfl rfl rfl ?_
          refine WL_rd (Rd_move rfl) rfl rfl rfl ?_
          refine WL_rd (Rd_move rfl) rfl rfl rfl ?_
          refine WL_rd (Rd_move rfl) rfl rfl rfl ?_
          refine WL_rd (Rd_addN rfl rfl) rfl rfl rfl ?_
          refine WL_rd (Rd_index _ rfl rfl ud23 sz5) rfl rfl rfl ?_
          refine WL_rd (Rd_loadU rfl tk5) rfl rfl rfl ?_
          refine WL_rd (Rd_ixA _ rfl rfl ud80 sz5) rfl rfl rfl ?_
          refine WL_ac0 (Ac_storeU rfl rfl sz5) rfl rfl ?_
          rintro _ _ rfl
          rw [← blk_at (by omega), cpy_succ 0#8 hbk (by omega)]
          refine WL_nil ?_
          refine Ps_next hK19 ?_
          refine WC_region ?_
          refine WL_rd (Rd_move rfl) rfl rfl rfl ?_
          refine WL_rd (Rd_addN (j := 1) rfl rfl) rfl rfl rfl ?_
          refine WL_rd (Rd_assign rfl) rfl rfl rfl ?_
          refine WL_nil ?_
          refine Ps_wk (by (try simp only [List.cons_append, List.nil_append]); repeat (first | with_reducible exact Wk.nil | refine Wk.cons (by first | rfl | (simp only [List.length_append, List.length_cons, List.length_nil, List.length_replicate, Nat.zero_add]; rfl) | (simp; done)) ?_)) (by (try simp only [List.cons_append, List.nil_append]); repeat (first | with_reducible exact Sub.refl | with_reducible exact Sub.nil | with_reducible refine Sub.cons (by repeat (first | with_reducible exact Ext.here | with_reducible apply Ext.there)) ?_ | with_reducible refine Sub.tail ?_)) (hK16 (k + 1) (by omega) (by omega))
        · try simp only [decide_eq_true_eq, decide_eq_false_iff_not, Bool.not_eq_true', Bool.not_eq_false', Bool.not_eq_true, Bool.not_eq_false, Int.not_lt, Int.not_le, Nat.not_lt, Nat.not_le, Decidable.not_not, ne_eq] at hc1
          obtain rfl : k = 64 := by omega
          rw [cpy_all 0#8 hbk]
          refine WC_exit ?_
          refine Ps_next hK14 ?_
          refine WC_region ?_
          refine WL_rd (Rd_loadW rfl tk78) rfl rfl rfl ?_
          refine WL_rd (Rd_loadW rfl tk80) rfl rfl rfl ?_
          refine WL_ac (Ac_call cf41 rfl (hs := mixR_ct)) rfl rfl rfl ?_
          rintro _ _ ⟨⟨⟩, rfl, hA⟩
          simp only [List.cons_append, List.nil_append] at hA
          replace hA := hA.symm
          subst hA
          rw [blkI_succ]
          refine WL_ac0 (Ac_storeW rfl rfl sz78) rfl rfl ?_
          rintro _ _ rfl
          refine WL_nil ?_
          refine Ps_next hK12 ?_
          refine WC_region ?_
          refine WL_rd (Rd_move rfl) rfl rfl rfl ?_
          refine WL_rd (Rd_addN (j := 64) rfl rfl) rfl rfl rfl ?_
          refine WL_rd (Rd_assign rfl) rfl rfl rfl ?_
          refine WL_nil ?_
          refine Ps_wk (by (try simp only [List.cons_append, List.nil_append]); repeat (first | with_reducible exact Wk.nil | refine Wk.cons (by first | rfl | (simp only [List.length_append, List.length_cons, List.length_nil, List.length_replicate, Nat.zero_add]; rfl) | (simp; done)) ?_)) (by (try simp only [List.cons_append, List.nil_append]); repeat (first | with_reducible exact Sub.refl | with_reducible exact Sub.nil | with_reducible refine Sub.cons (by repeat (first | with_reducible exact Ext.here | with_reducible apply Ext.there)) ?_ | with_reducible refine Sub.tail ?_)) (hK9 (c + 1) (by omega) (by omega))
    · try simp only [decide_eq_true_eq, decide_eq_false_iff_not, Bool.not_eq_true', Bool.not_eq_false', Bool.not_eq_true, Bool.not_eq_false, Int.not_lt, Int.not_le, Nat.not_lt, Nat.not_le, Decidable.not_not, ne_eq] at hc0
      obtain rfl : c = ((full l).length / 64) := by omega
      refine WC_exit ?_
      refine Ps_next hK7 ?_
      refine WC_sr fun K20 hK20 => ?_
      refine WL_ac (Ac_allocW (k := .u8) (w := 8) (m := 32) zr43) rfl rfl rfl ?_
      rintro _ _ ⟨b10, rfl, rfl⟩
      refine WL_end hK20 ?_
      refine WC_seq fun K21 hK21 => ?_
      refine WC_sr fun K22 hK22 => ?_
      refine WL_rd (Rd_assign rfl) rfl rfl rfl ?_
      refine WL_end hK22 ?_
      refine WC_block ?_
      rw [show arr (some b10) 32 1 43 (eU .u8 (w := 8)) (List.replicate 32 0#8) = arr (some b10) 32 1 43 (eU .u8 (w := 8)) (cpy 0#8 32 (putI (blkI (full l) ((full l).length / 64)) 8) 0) from by rw [cpy_0]]
      refine WC_loopK (σ := Nat) (fun i2 => [(11, .int .i64 ((i2 : Nat) : Int))]) (fun i2 => [arr (some b10) 32 1 43 (eU .u8 (w := 8)) (cpy 0#8 32 (putI (blkI (full l) ((full l).length / 64)) 8) i2)]) (fun i2 => i2 ≤ 32) (fun i2 => 32 - i2) (0) [2, 6, 10, 64] (by repeat (first | exact Kep.nil | apply Kep.drop rfl | apply Kep.keep rfl)) (by (try dsimp only); repeat (first | with_reducible exact Gv.nil | (with_reducible apply Gv.cons; · (repeat (first | with_reducible exact Ext.here | with_reducible apply Ext.there))))) ?_ ?_ Sub.refl ?_
      · omega
      · (try dsimp only); exact (Wk.cons (by first | rfl | (simp only [List.length_append, List.length_cons, List.length_nil, List.length_replicate, Nat.zero_add]; rfl) | (simp; done)) Wk.nil)
      · rintro i2 hi2 K23 hK23
        simp only [List.cons_append, List.nil_append]
        have hcl := cpy_len 0#8 hdl hi2
        have hbl := blkI_len (full l) ((full l).length / 64)
        refine WC_seq fun K24 hK24 => ?_
        refine WC_sr fun K25 hK25 => ?_
        refine WL_rd (Rd_move rfl) rfl rfl rfl ?_
        refine WL_rd (Rd_lssN (j := 32) rfl rfl) rfl rfl rfl ?_
        refine WL_end hK25 ?_
        refine WC_cond rfl (fun hc2 => ?_) (fun hc2 => ?_)
        · try simp only [decide_eq_true_eq, decide_eq_false_iff_not, Bool.not_eq_true', Bool.not_eq_false', Bool.not_eq_true, Bool.not_eq_false, Int.not_lt, Int.not_le, Nat.not_lt, Nat.not_le, Decidable.not_not, ne_eq] at hc2
          refine WC_skip ?_
          refine Ps_next hK24 ?_
          refine WC_seq fun K26 hK26 => ?_
          refine WC_block ?_
          refine WC_region ?_
          refine WL_rd (Rd_move rfl) rfl rfl rfl ?_
          refine WL_rd (Rd_move rfl) rfl rfl rfl ?_
          refine WL_rd (Rd_quoN (j := 4) rfl rfl) rfl rfl rfl ?_
          refine WL_rd (Rd_ixA _ rfl rfl ud78 sz44) rfl rfl rfl ?_
          refine WL_rd (Rd_loadU rfl tk44) rfl rfl rfl ?_
          refine WL_rd (Rd_move rfl) rfl rfl rfl ?_
          refine WL_rd (Rd_remN (j := 4) rfl rfl) rfl rfl rfl ?_
          refine WL_rd (Rd_mulN (i := 8) rfl rfl) rfl rfl rfl ?_
          refine WL_rd (Rd_subN (i := 24) rfl rfl) rfl rfl rfl ?_
          refine WL_rd (Rd_conv rfl ikd3_82 (r := ((24 - 8 * (i2 % 4) : Nat) : Int)) (wrap_u64n (by omega))) rfl rfl rfl ?_
          refine WL_rd (Rd_shrU rfl rfl) rfl rfl rfl ?_
          refine WL_rd (Rd_convU rfl ikd44_5 (h' := uk8)) rfl rfl rfl ?_
          refine WL_rd (Rd_ixA _ rfl rfl ud43 sz5) rfl rfl rfl ?_
          refine WL_ac0 (Ac_storeU rfl rfl sz5) rfl rfl ?_
          rintro _ _ rfl
          rw [← putI_at (by omega), cpy_succ 0#8 hdl (by omega)]
          refine WL_nil ?_
          refine Ps_next hK26 ?_
          refine WC_region ?_
          refine WL_rd (Rd_move rfl) rfl rfl rfl ?_
          refine WL_rd (Rd_addN (j := 1) rfl rfl) rfl rfl rfl ?_
          refine WL_rd (Rd_assign rfl) rfl rfl rfl ?_
          refine WL_nil ?_
          refine Ps_wk (by (try simp only [List.cons_append, List.nil_append]); repeat (first | with_reducible exact Wk.nil | refine Wk.cons (by first | rfl | (simp only [List.length_append, List.length_cons, List.length_nil, List.length_replicate, Nat.zero_add]; rfl) | (simp; done)) ?_)) (by (try simp only [List.cons_append, List.nil_append]); repeat (first | with_reducible exact Sub.refl | with_reducible exact Sub.nil | with_reducible refine Sub.cons (by repeat (first | with_reducible exact Ext.here | with_reducible apply Ext.there)) ?_ | with_reducible refine Sub.tail ?_)) (hK23 (i2 + 1) (by omega) (by omega))
        · try simp only [decide_eq_true_eq, decide_eq_false_iff_not, Bool.not_eq_true', Bool.not_eq_false', Bool.not_eq_true, Bool.not_eq_false, Int.not_lt, Int.not_le, Nat.not_lt, Nat.not_le, Decidable.not_not, ne_eq] at hc2
          obtain rfl : i2 = 32 := by omega
          rw [cpy_all 0#8 hdl]
          rw [dgM_eq] at hret
          refine WC_exit ?_
          refine Ps_next hK21 ?_
          refine WC_sr fun K27 hK27 => ?_
          refine WL_rd (Rd_loadW rfl tk43) rfl rfl rfl ?_
          refine WL_ac0 (Ac_storeW rfl rfl sz43) rfl rfl ?_
          rintro _ _ rfl
          refine WL_end hK27 ?_
          refine WC_ret ?_
          exact hret.go () (Rs1W rfl rfl tk43)
end Go.Proofs.Ytlcafifjhilleaa
namespace Go.Proofs.Ytlcafifjhilleaa
open Go.RowKit Go.SL Go.ShM
set_option maxHeartbeats 1000000
set_option maxRecDepth 20000
set_option linter.all false

theorem joinP_one (p : Pt) : joinP [p] = p.l := by simp [joinP]
theorem sum1_ct {b : Nat} {X : Asn} {v : Value} {l : List B8} {ao : Option Addr} {cap2 : Nat} (hS : Sv [X] v 1 (eU .u8 (w := 8)) l ao cap2 := by assumption) (hl : l.length ≤ 900000000000 := by omega) : Ct Try.prog 50 [sl (some b) 1 1] [arr (some b) 1 1 23 fP [(⟨l, ao, cap2⟩ : Pt)], X] (fun _ : Unit => aU .u8 (dgM l)) (fun _ => [arr (some b) 1 1 23 fP [(⟨l, ao, cap2⟩ : Pt)], X]) := by
  have hv := hS.val
  subst hv
  have h1 : RdP [X] (⟨l, ao, cap2⟩ : Pt) := hS
  have h3 : Sv [arr (some b) 1 1 23 fP [(⟨l, ao, cap2⟩ : Pt)]] (sl (some b) 1 1) 1 fP [(⟨l, ao, cap2⟩ : Pt)] (some ⟨b, 0, none⟩) 1 := Sv_own' (a := some b) (cap := 1) (T := 23) encP (l := [(⟨l, ao, cap2⟩ : Pt)]) (by simp) (Nat.le_refl 1)
  have hj : joinP [(⟨l, ao, cap2⟩ : Pt)] = l := joinP_one _
  have h := Ct.un (Xs := [arr (some b) 1 1 23 fP [(⟨l, ao, cap2⟩ : Pt)], X]) (sum_ct (X := sep [arr (some b) 1 1 23 fP [(⟨l, ao, cap2⟩ : Pt)], X]) (ps := [(⟨l, ao, cap2⟩ : Pt)]) (hS := h3.pk (by repeat (first | with_reducible exact Has.here | with_reducible refine Has.there ?_))) (hP := List.forall_mem_cons.2 ⟨h1.pk (by repeat (first | with_reducible exact Has.here | with_reducible refine Has.there ?_)), by simp⟩) (hn := by rw [hj]; exact hl) (hk := by show 1 ≤ 900000000000; omega))
  rw [hj] at h
  exact h
end Go.Proofs.Ytlcafifjhilleaa
namespace Go.Proofs.Ytlcafifjhilleaa
open Go.RowKit Go.SL Go.ShM
set_option maxHeartbeats 1000000
set_option maxRecDepth 20000
set_option linter.all false
theorem ais43 : ais Try.prog 43 = some (32, 5) := by kernel_rfl
theorem ud5 : Try.prog.underlying 5 = some (.int .u8) := by kernel_rfl
theorem RdP_nil (A : List Asn) : RdP A ⟨[], none, 0⟩ := ⟨rfl, fun h => absurd rfl h, fun x hx => by simp at hx, Nat.le_refl _, fun w _ i x hx => by simp at hx⟩
theorem Sv_nil (A : List Asn) : Sv A (sl none 0 0) 1 fP ([] : List Pt) none 0 := ⟨rfl, fun h => absurd rfl h, fun x hx => by simp at hx, Nat.le_refl _, fun w _ i x hx => by simp at hx⟩
end Go.Proofs.Ytlcafifjhilleaa
