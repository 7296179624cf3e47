/-
  Contracts of functions that the claim reaches, or the logic and the plain laws that they rest on, or the row over them. (Conditions: none beyond the statement.)
-/
import Derived.Test.YtlcafifjhilleaaRows
import Derived.Test.YtlcafifjhilleaaShA
set_option linter.all false
namespace Go.Proofs.Ytlcafifjhilleaa
open Go.RowKit Go.SL Go.ShM
set_option maxHeartbeats 1000000
set_option maxRecDepth 20000
set_option linter.all false
theorem ikd3_82 : ikd Try.prog 3 82 = some .u64 := by kernel_rfl
theorem pls103 : pls Try.prog 103 = some ([.int .u32 0, .int .u32 0, .int .u32 0, .int .u32 0, .int .u32 0, .int .u32 0, .int .u32 0, .int .u32 0, .int .u32 0, .int .u32 0, .int .u32 0, .int .u32 0, .int .u32 0, .int .u32 0, .int .u32 0, .int .u32 0, .int .u32 0, .int .u32 0, .int .u32 0, .int .u32 0, .int .u32 0, .int .u32 0, .int .u32 0, .int .u32 0, .int .u32 0, .int .u32 0, .int .u32 0, .int .u32 0, .int .u32 0, .int .u32 0, .int .u32 0, .int .u32 0, .int .u32 0, .int .u32 0, .int .u32 0, .int .u32 0, .int .u32 0, .int .u32 0, .int .u32 0, .int .u32 0, .int .u32 0, .int .u32 0, .int .u32 0, .int .u32 0, .int .u32 0, .int .u32 0, .int .u32 0, .int .u32 0, .int .u32 0, .int .u32 0, .int .u32 0, .int .u32 0, .int .u32 0, .int .u32 0, .int .u32 0, .int .u32 0, .int .u32 0, .int .u32 0, .int .u32 0, .int .u32 0, .int .u32 0, .int .u32 0, .int .u32 0, .int .u32 0], [(0, 1), (1, 1), (2, 1), (3, 1), (4, 1), (5, 1), (6, 1), (7, 1), (8, 1), (9, 1), (10, 1), (11, 1), (12, 1), (13, 1), (14, 1), (15, 1), (16, 1), (17, 1), (18, 1), (19, 1), (20, 1), (21, 1), (22, 1), (23, 1), (24, 1), (25, 1), (26, 1), (27, 1), (28, 1), (29, 1), (30, 1), (31, 1), (32, 1), (33, 1), (34, 1), (35, 1), (36, 1), (37, 1), (38, 1), (39, 1), (40, 1), (41, 1), (42, 1), (43, 1), (44, 1), (45, 1), (46, 1), (47, 1), (48, 1), (49, 1), (50, 1), (51, 1), (52, 1), (53, 1), (54, 1), (55, 1), (56, 1), (57, 1), (58, 1), (59, 1), (60, 1), (61, 1), (62, 1), (63, 1)]) := by kernel_rfl
theorem pls117 : pls Try.prog 117 = some ([.int .u32 0, .int .u32 0, .int .u32 0, .int .u32 0, .int .u32 0, .int .u32 0, .int .u32 0, .int .u32 0], [(0, 1), (1, 1), (2, 1), (3, 1), (4, 1), (5, 1), (6, 1), (7, 1)]) := by kernel_rfl
theorem sz78 : sz Try.prog 78 = some 8 := by kernel_rfl
theorem sz103 : sz Try.prog 103 = some 64 := by kernel_rfl
theorem tk78 : tk Try.prog 78 = some (some 8) := by kernel_rfl
theorem tk103 : tk Try.prog 103 = some (some 64) := by kernel_rfl
theorem zr78 : zr Try.prog 78 = some [.int .u32 0, .int .u32 0, .int .u32 0, .int .u32 0, .int .u32 0, .int .u32 0, .int .u32 0, .int .u32 0] := by kernel_rfl
theorem zr103 : zr Try.prog 103 = some [.int .u32 0, .int .u32 0, .int .u32 0, .int .u32 0, .int .u32 0, .int .u32 0, .int .u32 0, .int .u32 0, .int .u32 0, .int .u32 0, .int .u32 0, .int .u32 0, .int .u32 0, .int .u32 0, .int .u32 0, .int .u32 0, .int .u32 0, .int .u32 0, .int .u32 0, .int .u32 0, .int .u32 0, .int .u32 0, .int .u32 0, .int .u32 0, .int .u32 0, .int .u32 0, .int .u32 0, .int .u32 0, .int .u32 0, .int .u32 0, .int .u32 0, .int .u32 0, .int .u32 0, .int .u32 0, .int .u32 0, .int .u32 0, .int .u32 0, .int .u32 0, .int .u32 0, .int .u32 0, .int .u32 0, .int .u32 0, .int .u32 0, .int .u32 0, .int .u32 0, .int .u32 0, .int .u32 0, .int .u32 0, .int .u32 0, .int .u32 0, .int .u32 0, .int .u32 0, .int .u32 0, .int .u32 0, .int .u32 0, .int .u32 0, .int .u32 0, .int .u32 0, .int .u32 0, .int .u32 0, .int .u32 0, .int .u32 0, .int .u32 0, .int .u32 0] := by kernel_rfl
theorem rot_ct {x : B32} {k : Int}  : Ct Try.prog 97 [.int .u32 ((x.toNat : Nat) : Int), .int .i64 k] [] (fun _ : Unit => .int .u32 (((rotM x k).toNat : Nat) : Int)) (fun _ => []) := by
  refine Ct_body (n := 17) Try.func97 rfl rfl rfl fun F w0 Q hret hnorm hp => ?_
  change WC _ _ _ _ _ _ _ (F)
  refine WC_sr fun K1 hK1 => ?_
  refine WL_rd (Rd_assign rfl) rfl rfl rfl ?_
  refine WL_end hK1 ?_
  refine WC_sr fun K2 hK2 => ?_
  refine WL_rd (Rd_move rfl) rfl rfl rfl ?_
  refine WL_rd (Rd_convZU rfl ikd3_82 (h' := uk64)) rfl rfl rfl ?_
  refine WL_rd (Rd_andU (b := 31#64) rfl rfl) rfl rfl rfl ?_
  refine WL_rd (Rd_assign rfl) rfl rfl rfl ?_
  refine WL_end hK2 ?_
  refine WC_sr fun K3 hK3 => ?_
  refine WL_rd (Rd_move rfl) rfl rfl rfl ?_
  refine WL_rd (Rd_move rfl) rfl rfl rfl ?_
  refine WL_rd (Rd_shlU rfl rfl) rfl rfl rfl ?_
  refine WL_rd (Rd_move rfl) rfl rfl rfl ?_
  refine WL_rd (Rd_move rfl) rfl rfl rfl ?_
  refine WL_rd (Rd_subU (a := 32#64) rfl rfl) rfl rfl rfl ?_
  refine WL_rd (Rd_shrU rfl rfl) rfl rfl rfl ?_
  refine WL_rd (Rd_orU rfl rfl) rfl rfl rfl ?_
  refine WL_rd (Rd_assign rfl) rfl rfl rfl ?_
  refine WL_end hK3 ?_
  refine WC_ret ?_
  exact hret.go () (Rs1 rfl rfl)

theorem const_ct   : Ct Try.prog 94 [] [] (fun _ : Unit => aU .u32 kM) (fun _ => []) := by
  refine Ct_body (n := 2) Try.func94 rfl rfl rfl fun F w0 Q hret hnorm hp => ?_
  change WC _ _ _ _ _ _ _ (F)
  have hkl := kM_len
  refine WC_sr fun K1 hK1 => ?_
  refine WL_ac (Ac_allocW (k := .u32) (w := 32) (m := 64) zr103) rfl rfl rfl ?_
  rintro _ _ ⟨b0, rfl, rfl⟩
  refine WL_end hK1 ?_
  refine WC_sr fun K2 hK2 => ?_
  refine WL_rd (Rd_aU (k := .u32) (l := kM) (Rd_build pls103 rfl) (by rfl)) rfl rfl rfl ?_
  refine WL_ac0 (Ac_storeW rfl rfl sz103) rfl rfl ?_
  rintro _ _ rfl
  refine WL_end hK2 ?_
  refine WC_ret ?_
  exact hret.go () (Rs1W rfl rfl tk103)

theorem init_ct   : Ct Try.prog 87 [] [] (fun _ : Unit => aU .u32 iniM) (fun _ => []) := by
  refine Ct_body (n := 2) Try.func87 rfl rfl rfl fun F w0 Q hret hnorm hp => ?_
  change WC _ _ _ _ _ _ _ (F)
  have hkl := iniM_len
  refine WC_sr fun K1 hK1 => ?_
  refine WL_ac (Ac_allocW (k := .u32) (w := 32) (m := 8) zr78) rfl rfl rfl ?_
  rintro _ _ ⟨b0, rfl, rfl⟩
  refine WL_end hK1 ?_
  refine WC_sr fun K2 hK2 => ?_
  refine WL_rd (Rd_aU (k := .u32) (l := iniM) (Rd_build pls117 rfl) (by rfl)) rfl rfl rfl ?_
  refine WL_ac0 (Ac_storeW rfl rfl sz78) rfl rfl ?_
  rintro _ _ rfl
  refine WL_end hK2 ?_
  refine WC_ret ?_
  exact hret.go () (Rs1W rfl rfl tk78)
end Go.Proofs.Ytlcafifjhilleaa
namespace Go.Proofs.Ytlcafifjhilleaa
open Go.RowKit Go.SL Go.ShM
set_option maxHeartbeats 1000000
set_option maxRecDepth 20000
set_option linter.all false
theorem cf97 : cfn Try.prog 97 = true := by kernel_rfl
theorem ikd5_44 : ikd Try.prog 5 44 = some .u32 := by kernel_rfl
theorem mix : Try.prog.follows .mixedOrders = true := by kernel_rfl
theorem sz5 : sz Try.prog 5 = some 1 := by kernel_rfl
theorem sz44 : sz Try.prog 44 = some 1 := by kernel_rfl
theorem tk5 : tk Try.prog 5 = some none := by kernel_rfl
theorem tk44 : tk Try.prog 44 = some none := by kernel_rfl
theorem ud80 : Try.prog.underlying 80 = some (.array 64 5) := by kernel_rfl
theorem ud103 : Try.prog.underlying 103 = some (.array 64 44) := by kernel_rfl
theorem sch_ct {bs : List B8} (hb : bs.length = 64 := by first | with_reducible assumption | omega) : Ct Try.prog 93 [aU .u8 bs] [] (fun _ : Unit => aU .u32 (schM bs)) (fun _ => []) := by
  refine Ct_body (n := 89) Try.func93 rfl rfl rfl fun F w0 Q hret hnorm hp => ?_
  change WC _ _ _ _ _ _ _ (F)
  refine WC_sr fun K1 hK1 => ?_
  refine WL_ac (Ac_boxW (k := .u8) rfl) rfl rfl rfl ?_
  rintro _ _ ⟨b1, rfl, rfl⟩
  refine WL_ac (Ac_allocW (k := .u32) (w := 32) (m := 64) zr103) rfl rfl rfl ?_
  rintro _ _ ⟨b2, rfl, rfl⟩
  refine WL_end hK1 ?_
  refine WC_sr fun K2 hK2 => ?_
  refine WL_ac (Ac_allocW (k := .u32) (w := 32) (m := 64) zr103) rfl rfl rfl ?_
  rintro _ _ ⟨b3, rfl, rfl⟩
  rw [show (List.replicate 64 0#32) = schI bs 0 from rfl]
  refine WL_end hK2 ?_
  refine WC_seq fun K3 hK3 => ?_
  refine WC_sr fun K4 hK4 => ?_
  refine WL_rd (Rd_move rfl) rfl rfl rfl ?_
  refine WL_end hK4 ?_
  refine WC_block ?_
  refine WC_loop (σ := Nat) (fun i' => [(1, .pointer (some ⟨b1, 0, none⟩)), (2, .pointer (some ⟨b2, 0, none⟩)), (3, .pointer (some ⟨b3, 0, none⟩)), (10, .int .i64 ((i' : Nat) : Int))]) (fun i' => arr (some b1) bs.length 1 80 (eU .u8) bs :: arr (some b3) 64 1 103 (eU .u32) (schI bs i') :: arr (some b2) 64 1 103 (eU .u32) (schI bs 0) :: F) (fun i' => i' ≤ 16) (fun i' => 16 - i') (0) ?_ ?_ ?_ ?_
  · omega
  · exact (Wk.cons (by first | rfl | (simp only [List.length_append, List.length_cons, List.length_nil, List.length_replicate, Nat.zero_add]; rfl) | (simp; done)) (Wk.cons (by first | rfl | (simp only [List.length_append, List.length_cons, List.length_nil, List.length_replicate, Nat.zero_add]; rfl) | (simp; done)) (Wk.cons (by first | rfl | (simp only [List.length_append, List.length_cons, List.length_nil, List.length_replicate, Nat.zero_add]; rfl) | (simp; done)) (Wk.cons (by first | rfl | (simp only [List.length_append, List.length_cons, List.length_nil, List.length_replicate, Nat.zero_add]; rfl) | (simp; done)) Wk.nil))))
  · repeat (first | with_reducible exact Sub.refl | with_reducible exact Sub.nil | with_reducible refine Sub.cons (by repeat (first | with_reducible exact Ext.here | with_reducible apply Ext.there)) ?_ | with_reducible refine Sub.tail ?_)
  · rintro i' hi K5 hK5
    have hl3 := schI_len bs i'
    refine WC_sr fun K6 hK6 => ?_
    refine WL_rd (Rd_lssN (j := 16) rfl rfl) rfl rfl rfl ?_
    refine WL_end hK6 ?_
    refine WC_seq fun K7 hK7 => ?_
    refine WC_cond rfl (fun hc0 => ?_) (fun hc0 => ?_)
    · try simp only [decide_eq_true_eq, decide_eq_false_iff_not, Bool.not_eq_true', Bool.not_eq_false', Bool.not_eq_true, Bool.not_eq_false, Int.not_lt, Int.not_le, Nat.not_lt, Nat.not_le, Decidable.not_not, ne_eq] at hc0
      refine WC_skip ?_
      refine Ps_next hK7 ?_
      refine WC_seq fun K8 hK8 => ?_
      refine WC_block ?_
      refine WC_sr fun K9 hK9 => ?_
      refine WL_rd (Rd_move rfl) rfl rfl rfl ?_
      refine WL_rd (Rd_assign rfl) rfl rfl rfl ?_
      refine WL_end hK9 ?_
      refine WC_drawA mix (fun i => ([2, 2, 2, 2, 2, 2, 2, 2, 2, 2, 2, 2, 2, 2, 2, 2, 2, 2, 2, 2, 2, 2, 2, 2, 2, 2, 2, 2, 2, 2, 2, 0] : List Nat).getD i 0) ?_
      refine WJ_takeP 0 rfl (by kernel_rfl) (Rd_move rfl) rfl rfl rfl (hp _ _) ?_
      refine WJ_takeP 1 rfl (by kernel_rfl) (Rd_move rfl) rfl rfl rfl (hp _ _) ?_
      refine WJ_takeP 2 rfl (by kernel_rfl) (Rd_mulN (i := 4) rfl rfl) rfl rfl rfl (hp _ _) ?_
      refine WJ_takeP 3 rfl (by kernel_rfl) (Rd_ixA _ rfl rfl ud80 sz5) rfl rfl rfl (hp _ _) ?_
      refine WJ_tk 4 (Rd_loadU rfl tk5) hp ?_ rfl (by kernel_rfl) rfl rfl rfl
      refine WJ_takeP 5 rfl (by kernel_rfl) (Rd_convU rfl ikd5_44 (h' := uk32)) rfl rfl rfl (hp _ _) ?_
      refine WJ_takeP 6 rfl (by kernel_rfl) (Rd_shlU (j := 24) rfl rfl) rfl rfl rfl (hp _ _) ?_
      refine WJ_takeP 7 rfl (by kernel_rfl) (Rd_move rfl) rfl rfl rfl (hp _ _) ?_
      refine WJ_takeP 8 rfl (by kernel_rfl) (Rd_mulN (i := 4) rfl rfl) rfl rfl rfl (hp _ _) ?_
      refine WJ_takeP 9 rfl (by kernel_rfl) (Rd_addN (j := 1) rfl rfl) rfl rfl rfl (hp _ _) ?_
      refine WJ_takeP 10 rfl (by kernel_rfl) (Rd_ixA _ rfl rfl ud80 sz5) rfl rfl rfl (hp _ _) ?_
      refine WJ_tk 11 (Rd_loadU rfl tk5) hp ?_ rfl (by kernel_rfl) rfl rfl rfl
      refine WJ_takeP 12 rfl (by kernel_rfl) (Rd_convU rfl ikd5_44 (h' := uk32)) rfl rfl rfl (hp _ _) ?_
      refine WJ_takeP 13 rfl (by kernel_rfl) (Rd_shlU (j := 16) rfl rfl) rfl rfl rfl (hp _ _) ?_
      refine WJ_takeP 14 rfl (by kernel_rfl) (Rd_orU rfl rfl) rfl rfl rfl (hp _ _) ?_
      refine WJ_takeP 15 rfl (by kernel_rfl) (Rd_move rfl) rfl rfl rfl (hp _ _) ?_
      refine WJ_takeP 16 rfl (by kernel_rfl) (Rd_mulN (i := 4) rfl rfl) rfl rfl rfl (hp _ _) ?_
      refine WJ_takeP 17 rfl (by kernel_rfl) (Rd_addN (j := 2) rfl rfl) rfl rfl rfl (hp _ _) ?_
      refine WJ_takeP 18 rfl (by kernel_rfl) (Rd_ixA _ rfl rfl ud80 sz5) rfl rfl rfl (hp _ _) ?_
      refine WJ_tk 19 (Rd_loadU rfl tk5) hp ?_ rfl (by kernel_rfl) rfl rfl rfl
      refine WJ_takeP 20 rfl (by kernel_rfl) (Rd_convU rfl ikd5_44 (h' := uk32)) rfl rfl rfl (hp _ _) ?_
      refine WJ_takeP 21 rfl (by kernel_rfl) (Rd_shlU (j := 8) rfl rfl) rfl rfl rfl (hp _ _) ?_
      refine WJ_takeP 22 rfl (by kernel_rfl) (Rd_orU rfl rfl) rfl rfl rfl (hp _ _) ?_
      refine WJ_takeP 23 rfl (by kernel_rfl) (Rd_move rfl) rfl rfl rfl (hp _ _) ?_
      refine WJ_takeP 24 rfl (by kernel_rfl) (Rd_mulN (i := 4) rfl rfl) rfl rfl rfl (hp _ _) ?_
      refine WJ_takeP 25 rfl (by kernel_rfl) (Rd_addN (j := 3) rfl rfl) rfl rfl rfl (hp _ _) ?_
      refine WJ_takeP 26 rfl (by kernel_rfl) (Rd_ixA _ rfl rfl ud80 sz5) rfl rfl rfl (hp _ _) ?_
      refine WJ_tk 27 (Rd_loadU rfl tk5) hp ?_ rfl (by kernel_rfl) rfl rfl rfl
      refine WJ_takeP 28 rfl (by kernel_rfl) (Rd_convU rfl ikd5_44 (h' := uk32)) rfl rfl rfl (hp _ _) ?_
      refine WJ_takeP 29 rfl (by kernel_rfl) (Rd_orU rfl rfl) rfl rfl rfl (hp _ _) ?_
      refine WJ_takeP 30 rfl (by kernel_rfl) (Rd_ixA _ rfl rfl ud103 sz44) rfl rfl rfl (hp _ _) ?_
      refine WJ_all (rs := [31]) (by kernel_rfl) rfl ?_
      refine WI_one ?_
      refine WI_ac0 rfl (Ac_storeU rfl rfl sz44) rfl rfl rfl ?_
      rintro _ _ rfl
      refine ⟨(fun h => by cases h), ?_⟩
      rw [← schI_lo hc0]
      refine WJ_done (by kernel_rfl) ?_
      refine Ps_next hK8 ?_
      refine WC_region ?_
      refine WL_rd (Rd_addN (j := 1) rfl rfl) rfl rfl rfl ?_
      refine WL_rd (Rd_move rfl) rfl rfl rfl ?_
      refine WL_nil ?_
      refine Ps_wk ((Wk.cons (by first | rfl | (simp only [List.length_append, List.length_cons, List.length_nil, List.length_replicate, Nat.zero_add]; rfl) | (simp; done)) (Wk.cons (by first | rfl | (simp only [List.length_append, List.length_cons, List.length_nil, List.length_replicate, Nat.zero_add]; rfl) | (simp; done)) (Wk.cons (by first | rfl | (simp only [List.length_append, List.length_cons, List.length_nil, List.length_replicate, Nat.zero_add]; rfl) | (simp; done)) (Wk.cons (by first | rfl | (simp only [List.length_append, List.length_cons, List.length_nil, List.length_replicate, Nat.zero_add]; rfl) | (simp; done)) Wk.nil))))) (by first | with_reducible exact Sub.refl | ((try dsimp only); repeat (first | with_reducible exact Sub.refl | with_reducible exact Sub.nil | with_reducible refine Sub.cons (by repeat (first | with_reducible exact Ext.here | with_reducible apply Ext.there)) ?_ | with_reducible refine Sub.tail ?_))) (hK5 (i' + 1) (by omega) (by omega))
    · try simp only [decide_eq_true_eq, decide_eq_false_iff_not, Bool.not_eq_true', Bool.not_eq_false', Bool.not_eq_true, Bool.not_eq_false, Int.not_lt, Int.not_le, Nat.not_lt, Nat.not_le, Decidable.not_not, ne_eq] at hc0
      obtain rfl : i' = 16 := by omega
      refine WC_exit ?_
      refine Ps_next hK3 ?_
      refine WC_seq fun K10 hK10 => ?_
      refine WC_sr fun K11 hK11 => ?_
      refine WL_rd (Rd_assign rfl) rfl rfl rfl ?_
      refine WL_end hK11 ?_
      refine WC_block ?_
      refine WC_loop (σ := Nat) (fun i2 => [(1, .pointer (some ⟨b1, 0, none⟩)), (2, .pointer (some ⟨b2, 0, none⟩)), (3, .pointer (some ⟨b3, 0, none⟩)), (5, .int .i64 ((i2 : Nat) : Int))]) (fun i2 => arr (some b1) bs.length 1 80 (eU .u8) bs :: arr (some b3) 64 1 103 (eU .u32) (schI bs i2) :: arr (some b2) 64 1 103 (eU .u32) (schI bs 0) :: F) (fun i2 => 16 ≤ i2 ∧ i2 ≤ 64) (fun i2 => 64 - i2) (16) ?_ ?_ ?_ ?_
      · exact ⟨by omega, by omega⟩
      · exact (Wk.cons (by first | rfl | (simp only [List.length_append, List.length_cons, List.length_nil, List.length_replicate, Nat.zero_add]; rfl) | (simp; done)) (Wk.cons (by first | rfl | (simp only [List.length_append, List.length_cons, List.length_nil, List.length_replicate, Nat.zero_add]; rfl) | (simp; done)) (Wk.cons (by first | rfl | (simp only [List.length_append, List.length_cons, List.length_nil, List.length_replicate, Nat.zero_add]; rfl) | (simp; done)) (Wk.cons (by first | rfl | (simp only [List.length_append, List.length_cons, List.length_nil, List.length_replicate, Nat.zero_add]; rfl) | (simp; done)) Wk.nil))))
      · repeat (first | with_reducible exact Sub.refl | with_reducible exact Sub.nil | with_reducible refine Sub.cons (by repeat (first | with_reducible exact Ext.here | with_reducible apply Ext.there)) ?_ | with_reducible refine Sub.tail ?_)
      · rintro i2 ⟨hj1, hj⟩ K12 hK12
        have hl3 := schI_len bs i2
        refine WC_seq fun K13 hK13 => ?_
        refine WC_sr fun K14 hK14 => ?_
        refine WL_rd (Rd_move rfl) rfl rfl rfl ?_
        refine WL_rd (Rd_lssN (j := 64) rfl rfl) rfl rfl rfl ?_
        refine WL_end hK14 ?_
        refine WC_cond rfl (fun hc1 => ?_) (fun hc1 => ?_)
        · try simp only [decide_eq_true_eq, decide_eq_false_iff_not, Bool.not_eq_true', Bool.not_eq_false', Bool.not_eq_true, Bool.not_eq_false, Int.not_lt, Int.not_le, Nat.not_lt, Nat.not_le, Decidable.not_not, ne_eq] at hc1
          refine WC_skip ?_
          refine Ps_next hK13 ?_
          refine WC_seq fun K15 hK15 => ?_
          refine WC_block ?_
          refine WC_seq fun K16 hK16 => ?_
          refine WC_drawA mix (fun i => ([2, 2, 2, 2, 2, 2, 2, 2, 2, 2] : List Nat).getD i 0) ?_
          refine WJ_takeP 0 rfl (by kernel_rfl) (Rd_move rfl) rfl rfl rfl (hp _ _) ?_
          refine WJ_takeP 1 rfl (by kernel_rfl) (Rd_subN (j := 15) rfl rfl) rfl rfl rfl (hp _ _) ?_
          refine WJ_takeP 2 rfl (by kernel_rfl) (Rd_ixA _ rfl rfl ud103 sz44) rfl rfl rfl (hp _ _) ?_
          refine WJ_tk 3 (Rd_loadU rfl tk44) hp ?_ rfl (by kernel_rfl) rfl rfl rfl
          refine WJ_takeP 4 rfl (by kernel_rfl) (Rd_move rfl) rfl rfl rfl (hp _ _) ?_
          refine WJ_takeP 5 rfl (by kernel_rfl) (Rd_subN (j := 2) rfl rfl) rfl rfl rfl (hp _ _) ?_
          refine WJ_takeP 6 rfl (by kernel_rfl) (Rd_ixA _ rfl rfl ud103 sz44) rfl rfl rfl (hp _ _) ?_
          refine WJ_tk 7 (Rd_loadU rfl tk44) hp ?_ rfl (by kernel_rfl) rfl rfl rfl
          refine WJ_takeP 8 rfl (by kernel_rfl) (Rd_assign rfl) rfl rfl rfl (hp _ _) ?_
          refine WJ_takeP 9 rfl (by kernel_rfl) (Rd_assign rfl) rfl rfl rfl (hp _ _) ?_
          refine WJ_done (by kernel_rfl) ?_
          refine Ps_next hK16 ?_
          refine WC_sr fun K17 hK17 => ?_
          refine WL_rd (Rd_move rfl) rfl rfl rfl ?_
          refine WL_ac (Ac_call cf97 rfl (hs := rot_ct)) rfl rfl rfl ?_
          rintro _ _ ⟨⟨⟩, rfl, hA⟩
          simp only [List.cons_append, List.nil_append] at hA
          replace hA := hA.symm
          subst hA
          refine WL_rd (Rd_move rfl) rfl rfl rfl ?_
          refine WL_ac (Ac_call cf97 rfl (hs := rot_ct)) rfl rfl rfl ?_
          rintro _ _ ⟨⟨⟩, rfl, hA⟩
          simp only [List.cons_append, List.nil_append] at hA
          replace hA := hA.symm
          subst hA
          refine WL_rd (Rd_xorU rfl rfl) rfl rfl rfl ?_
          refine WL_rd (Rd_move rfl) rfl rfl rfl ?_
          refine WL_rd (Rd_shrU (j := 3) rfl rfl) rfl rfl rfl ?_
          refine WL_rd (Rd_xorU rfl rfl) rfl rfl rfl ?_
          refine WL_rd (Rd_assign rfl) rfl rfl rfl ?_
          refine WL_end hK17 ?_
          refine WC_sr fun K18 hK18 => ?_
          refine WL_rd (Rd_move rfl) rfl rfl rfl ?_
          refine WL_ac (Ac_call cf97 rfl (hs := rot_ct)) rfl rfl rfl ?_
          rintro _ _ ⟨⟨⟩, rfl, hA⟩
          simp only [List.cons_append, List.nil_append] at hA
          replace hA := hA.symm
          subst hA
          refine WL_rd (Rd_move rfl) rfl rfl rfl ?_
          refine WL_ac (Ac_call cf97 rfl (hs := rot_ct)) rfl rfl rfl ?_
          rintro _ _ ⟨⟨⟩, rfl, hA⟩
          simp only [List.cons_append, List.nil_append] at hA
          replace hA := hA.symm
          subst hA
          refine WL_rd (Rd_xorU rfl rfl) rfl rfl rfl ?_
          refine WL_rd (Rd_move rfl) rfl rfl rfl ?_
          refine WL_rd (Rd_shrU (j := 10) rfl rfl) rfl rfl rfl ?_
          refine WL_rd (Rd_xorU rfl rfl) rfl rfl rfl ?_
          refine WL_rd (Rd_assign rfl) rfl rfl rfl ?_
          refine WL_end hK18 ?_
          refine WC_drawA mix (fun i => ([2, 2, 2, 2, 2, 2, 2, 2, 2, 2, 2, 2, 2, 2, 2, 0] : List Nat).getD i 0) ?_
          refine WJ_takeP 0 rfl (by kernel_rfl) (Rd_move rfl) rfl rfl rfl (hp _ _) ?_
          refine WJ_takeP 1 rfl (by kernel_rfl) (Rd_move rfl) rfl rfl rfl (hp _ _) ?_
          refine WJ_takeP 2 rfl (by kernel_rfl) (Rd_move rfl) rfl rfl rfl (hp _ _) ?_
          refine WJ_takeP 3 rfl (by kernel_rfl) (Rd_subN (j := 7) rfl rfl) rfl rfl rfl (hp _ _) ?_
          refine WJ_takeP 4 rfl (by kernel_rfl) (Rd_ixA _ rfl rfl ud103 sz44) rfl rfl rfl (hp _ _) ?_
          refine WJ_tk 5 (Rd_loadU rfl tk44) hp ?_ rfl (by kernel_rfl) rfl rfl rfl
          refine WJ_takeP 6 rfl (by kernel_rfl) (Rd_addU rfl rfl) rfl rfl rfl (hp _ _) ?_
          refine WJ_takeP 7 rfl (by kernel_rfl) (Rd_move rfl) rfl rfl rfl (hp _ _) ?_
          refine WJ_takeP 8 rfl (by kernel_rfl) (Rd_addU rfl rfl) rfl rfl rfl (hp _ _) ?_
          refine WJ_takeP 9 rfl (by kernel_rfl) (Rd_move rfl) rfl rfl rfl (hp _ _) ?_
          refine WJ_takeP 10 rfl (by kernel_rfl) (Rd_subN (j := 16) rfl rfl) rfl rfl rfl (hp _ _) ?_
          refine WJ_takeP 11 rfl (by kernel_rfl) (Rd_ixA _ rfl rfl ud103 sz44) rfl rfl rfl (hp _ _) ?_
          refine WJ_tk 12 (Rd_loadU rfl tk44) hp ?_ rfl (by kernel_rfl) rfl rfl rfl
          refine WJ_takeP 13 rfl (by kernel_rfl) (Rd_addU rfl rfl) rfl rfl rfl (hp _ _) ?_
          refine WJ_takeP 14 rfl (by kernel_rfl) (Rd_ixA _ rfl rfl ud103 sz44) rfl rfl rfl (hp _ _) ?_
          refine WJ_all (rs := [15]) (by kernel_rfl) rfl ?_
          refine WI_one ?_
          refine WI_ac0 rfl (Ac_storeU rfl rfl sz44) rfl rfl rfl ?_
          rintro _ _ rfl
          refine ⟨(fun h => by cases h), ?_⟩
          rw [← schI_hi (show ¬ i2 < 16 from by omega)]
          refine WJ_done (by kernel_rfl) ?_
          refine Ps_next hK15 ?_
          refine WC_region ?_
          refine WL_rd (Rd_move rfl) rfl rfl rfl ?_
          refine WL_rd (Rd_addN (j := 1) rfl rfl) rfl rfl rfl ?_
          refine WL_rd (Rd_assign rfl) rfl rfl rfl ?_
          refine WL_nil ?_
          refine Ps_wk ((Wk.cons (by first | rfl | (simp only [List.length_append, List.length_cons, List.length_nil, List.length_replicate, Nat.zero_add]; rfl) | (simp; done)) (Wk.cons (by first | rfl | (simp only [List.length_append, List.length_cons, List.length_nil, List.length_replicate, Nat.zero_add]; rfl) | (simp; done)) (Wk.cons (by first | rfl | (simp only [List.length_append, List.length_cons, List.length_nil, List.length_replicate, Nat.zero_add]; rfl) | (simp; done)) (Wk.cons (by first | rfl | (simp only [List.length_append, List.length_cons, List.length_nil, List.length_replicate, Nat.zero_add]; rfl) | (simp; done)) Wk.nil))))) (by first | with_reducible exact Sub.refl | ((try dsimp only); repeat (first | with_reducible exact Sub.refl | with_reducible exact Sub.nil | with_reducible refine Sub.cons (by repeat (first | with_reducible exact Ext.here | with_reducible apply Ext.there)) ?_ | with_reducible refine Sub.tail ?_))) (hK12 (i2 + 1) (⟨by omega, by omega⟩) (by omega))
        · try simp only [decide_eq_true_eq, decide_eq_false_iff_not, Bool.not_eq_true', Bool.not_eq_false', Bool.not_eq_true, Bool.not_eq_false, Int.not_lt, Int.not_le, Nat.not_lt, Nat.not_le, Decidable.not_not, ne_eq] at hc1
          obtain rfl : i2 = 64 := by omega
          have hl0 := schI_len bs 0
          rw [show schM bs = schI bs 64 from rfl] at hret
          refine WC_exit ?_
          refine Ps_next hK10 ?_
          refine WC_sr fun K19 hK19 => ?_
          refine WL_rd (Rd_loadW rfl tk103) rfl rfl rfl ?_
          refine WL_ac0 (Ac_storeW rfl rfl sz103) rfl rfl ?_
          rintro _ _ rfl
          refine WL_end hK19 ?_
          refine WC_ret ?_
          exact hret.go () (Rs1W rfl rfl tk103)
end Go.Proofs.Ytlcafifjhilleaa
namespace Go.Proofs.Ytlcafifjhilleaa
open Go.RowKit Go.SL Go.ShM
set_option maxHeartbeats 1000000
set_option maxRecDepth 20000
set_option linter.all false
theorem cf93 : cfn Try.prog 93 = true := by kernel_rfl
theorem cf94 : cfn Try.prog 94 = true := by kernel_rfl
theorem cf95 : cfn Try.prog 95 = true := by kernel_rfl
theorem sz117 : sz Try.prog 117 = some 8 := by kernel_rfl
theorem tk80 : tk Try.prog 80 = some (some 64) := by kernel_rfl
theorem tk117 : tk Try.prog 117 = some (some 8) := by kernel_rfl
theorem ud78 : Try.prog.underlying 78 = some (.array 8 44) := by kernel_rfl
theorem ud117 : Try.prog.underlying 117 = some (.array 8 44) := by kernel_rfl
theorem zr117 : zr Try.prog 117 = some [.int .u32 0, .int .u32 0, .int .u32 0, .int .u32 0, .int .u32 0, .int .u32 0, .int .u32 0, .int .u32 0] := by kernel_rfl
theorem round_ct {x : List B32} {wd : B32} (hx : x.length = 8 := by first | with_reducible assumption | omega) : Ct Try.prog 95 [aU .u32 x, .int .u32 ((wd.toNat : Nat) : Int)] [] (fun _ : Unit => aU .u32 (roundM x wd)) (fun _ => []) := by
  refine Ct_body (n := 79) Try.func95 rfl rfl rfl fun F w0 Q hret hnorm hp => ?_
  change WC _ _ _ _ _ _ _ (F)
  have hrl : (roundM x wd).length = 8 := rfl
  refine WC_sr fun K1 hK1 => ?_
  refine WL_ac (Ac_boxW (k := .u32) rfl) rfl rfl rfl ?_
  rintro _ _ ⟨b2, rfl, rfl⟩
  refine WL_ac (Ac_allocW (k := .u32) (w := 32) (m := 8) zr117) rfl rfl rfl ?_
  rintro _ _ ⟨b4, rfl, rfl⟩
  refine WL_end hK1 ?_
  refine WC_seq fun K2 hK2 => ?_
  refine WC_drawA mix (fun i => ([2, 2, 2, 2, 2, 2] : List Nat).getD i 0) ?_
  refine WJ_takeP 0 rfl (by kernel_rfl) (Rd_ixA 0 rfl rfl ud117 sz44) rfl rfl rfl (hp _ _) ?_
  refine WJ_tk 1 (Rd_loadU rfl tk44) hp ?_ rfl (by kernel_rfl) rfl rfl rfl
  refine WJ_takeP 2 rfl (by kernel_rfl) (Rd_ixA 4 rfl rfl ud117 sz44) rfl rfl rfl (hp _ _) ?_
  refine WJ_tk 3 (Rd_loadU rfl tk44) hp ?_ rfl (by kernel_rfl) rfl rfl rfl
  refine WJ_takeP 4 rfl (by kernel_rfl) (Rd_assign rfl) rfl rfl rfl (hp _ _) ?_
  refine WJ_takeP 5 rfl (by kernel_rfl) (Rd_assign rfl) rfl rfl rfl (hp _ _) ?_
  refine WJ_done (by kernel_rfl) ?_
  refine Ps_next hK2 ?_
  refine WC_seq fun K3 hK3 => ?_
  refine WC_drawA mix (fun i => ([2, 2, 2, 1, 2, 1, 2, 2, 1, 2, 2, 2, 2, 2, 2, 2, 2, 2, 2, 2, 2, 2, 2, 2, 2] : List Nat).getD i 0) ?_
  refine WJ_takeP 0 rfl (by kernel_rfl) (Rd_ixA 7 rfl rfl ud117 sz44) rfl rfl rfl (hp _ _) ?_
  refine WJ_tk 1 (Rd_loadU rfl tk44) hp ?_ rfl (by kernel_rfl) rfl rfl rfl
  refine WJ_takeP 2 rfl (by kernel_rfl) (Rd_move rfl) rfl rfl rfl (hp _ _) ?_
  refine WJ_takeP 4 rfl (by kernel_rfl) (Rd_move rfl) rfl rfl rfl (hp _ _) ?_
  refine WJ_takeP 7 rfl (by kernel_rfl) (Rd_move rfl) rfl rfl rfl (hp _ _) ?_
  refine WJ_takeP 11 rfl (by kernel_rfl) (Rd_move rfl) rfl rfl rfl (hp _ _) ?_
  refine WJ_takeP 12 rfl (by kernel_rfl) (Rd_ixA 5 rfl rfl ud117 sz44) rfl rfl rfl (hp _ _) ?_
  refine WJ_tk 13 (Rd_loadU rfl tk44) hp ?_ rfl (by kernel_rfl) rfl rfl rfl
  refine WJ_takeP 14 rfl (by kernel_rfl) (Rd_andU rfl rfl) rfl rfl rfl (hp _ _) ?_
  refine WJ_takeP 15 rfl (by kernel_rfl) (Rd_move rfl) rfl rfl rfl (hp _ _) ?_
  refine WJ_takeP 16 rfl (by kernel_rfl) (Rd_notU rfl) rfl rfl rfl (hp _ _) ?_
  refine WJ_takeP 17 rfl (by kernel_rfl) (Rd_ixA 6 rfl rfl ud117 sz44) rfl rfl rfl (hp _ _) ?_
  refine WJ_tk 18 (Rd_loadU rfl tk44) hp ?_ rfl (by kernel_rfl) rfl rfl rfl
  refine WJ_takeP 19 rfl (by kernel_rfl) (Rd_andU rfl rfl) rfl rfl rfl (hp _ _) ?_
  refine WJ_takeP 20 rfl (by kernel_rfl) (Rd_xorU rfl rfl) rfl rfl rfl (hp _ _) ?_
  refine WJ_takeP 22 rfl (by kernel_rfl) (Rd_move rfl) rfl rfl rfl (hp _ _) ?_
  refine WJ_all (rs := [3]) (by kernel_rfl) rfl ?_
  refine WI_one ?_
  refine WI_ac rfl (Ac_call cf97 rfl (hs := rot_ct)) rfl rfl rfl rfl ?_
  rintro _ _ ⟨⟨⟩, rfl, hA⟩
  simp only [List.cons_append, List.nil_append] at hA
  replace hA := hA.symm
  subst hA
  refine ⟨(fun _ => (by repeat (first | with_reducible exact Sub.refl | with_reducible exact Sub.nil | with_reducible refine Sub.cons (by repeat (first | with_reducible exact Ext.here | with_reducible apply Ext.there)) ?_ | with_reducible refine Sub.tail ?_))), ?_⟩
  refine WJ_all (rs := [5]) (by kernel_rfl) rfl ?_
  refine WI_one ?_
  refine WI_ac rfl (Ac_call cf97 rfl (hs := rot_ct)) rfl rfl rfl rfl ?_
  rintro _ _ ⟨⟨⟩, rfl, hA⟩
  simp only [List.cons_append, List.nil_append] at hA
  replace hA := hA.symm
  subst hA
  refine ⟨(fun _ => (by repeat (first | with_reducible exact Sub.refl | with_reducible exact Sub.nil | with_reducible refine Sub.cons (by repeat (first | with_reducible exact Ext.here | with_reducible apply Ext.there)) ?_ | with_reducible refine Sub.tail ?_))), ?_⟩
  refine WJ_takeP 6 rfl (by kernel_rfl) (Rd_xorU rfl rfl) rfl rfl rfl (hp _ _) ?_
  refine WJ_all (rs := [8]) (by kernel_rfl) rfl ?_
  refine WI_one ?_
  refine WI_ac rfl (Ac_call cf97 rfl (hs := rot_ct)) rfl rfl rfl rfl ?_
  rintro _ _ ⟨⟨⟩, rfl, hA⟩
  simp only [List.cons_append, List.nil_append] at hA
  replace hA := hA.symm
  subst hA
  refine ⟨(fun _ => (by repeat (first | with_reducible exact Sub.refl | with_reducible exact Sub.nil | with_reducible refine Sub.cons (by repeat (first | with_reducible exact Ext.here | with_reducible apply Ext.there)) ?_ | with_reducible refine Sub.tail ?_))), ?_⟩
  refine WJ_takeP 9 rfl (by kernel_rfl) (Rd_xorU rfl rfl) rfl rfl rfl (hp _ _) ?_
  refine WJ_takeP 10 rfl (by kernel_rfl) (Rd_addU rfl rfl) rfl rfl rfl (hp _ _) ?_
  refine WJ_takeP 21 rfl (by kernel_rfl) (Rd_addU rfl rfl) rfl rfl rfl (hp _ _) ?_
  refine WJ_takeP 23 rfl (by kernel_rfl) (Rd_addU rfl rfl) rfl rfl rfl (hp _ _) ?_
  refine WJ_takeP 24 rfl (by kernel_rfl) (Rd_assign rfl) rfl rfl rfl (hp _ _) ?_
  refine WJ_done (by kernel_rfl) ?_
  refine Ps_next hK3 ?_
  refine WC_seq fun K4 hK4 => ?_
  refine WC_drawA mix (fun i => ([2, 1, 2, 1, 2, 2, 1, 2, 2, 2, 2, 2, 2, 2, 2, 2, 2, 2, 2, 2, 2, 2, 2, 2, 2] : List Nat).getD i 0) ?_
  refine WJ_takeP 0 rfl (by kernel_rfl) (Rd_move rfl) rfl rfl rfl (hp _ _) ?_
  refine WJ_takeP 2 rfl (by kernel_rfl) (Rd_move rfl) rfl rfl rfl (hp _ _) ?_
  refine WJ_takeP 5 rfl (by kernel_rfl) (Rd_move rfl) rfl rfl rfl (hp _ _) ?_
  refine WJ_takeP 8 rfl (by kernel_rfl) (Rd_move rfl) rfl rfl rfl (hp _ _) ?_
  refine WJ_takeP 9 rfl (by kernel_rfl) (Rd_ixA 1 rfl rfl ud117 sz44) rfl rfl rfl (hp _ _) ?_
  refine WJ_tk 10 (Rd_loadU rfl tk44) hp ?_ rfl (by kernel_rfl) rfl rfl rfl
  refine WJ_takeP 11 rfl (by kernel_rfl) (Rd_andU rfl rfl) rfl rfl rfl (hp _ _) ?_
  refine WJ_takeP 12 rfl (by kernel_rfl) (Rd_move rfl) rfl rfl rfl (hp _ _) ?_
  refine WJ_takeP 13 rfl (by kernel_rfl) (Rd_ixA 2 rfl rfl ud117 sz44) rfl rfl rfl (hp _ _) ?_
  refine WJ_tk 14 (Rd_loadU rfl tk44) hp ?_ rfl (by kernel_rfl) rfl rfl rfl
  refine WJ_takeP 15 rfl (by kernel_rfl) (Rd_andU rfl rfl) rfl rfl rfl (hp _ _) ?_
  refine WJ_takeP 16 rfl (by kernel_rfl) (Rd_xorU rfl rfl) rfl rfl rfl (hp _ _) ?_
  refine WJ_takeP 17 rfl (by kernel_rfl) (Rd_ixA 1 rfl rfl ud117 sz44) rfl rfl rfl (hp _ _) ?_
  refine WJ_tk 18 (Rd_loadU rfl tk44) hp ?_ rfl (by kernel_rfl) rfl rfl rfl
  refine WJ_takeP 19 rfl (by kernel_rfl) (Rd_ixA 2 rfl rfl ud117 sz44) rfl rfl rfl (hp _ _) ?_
  refine WJ_tk 20 (Rd_loadU rfl tk44) hp ?_ rfl (by kernel_rfl) rfl rfl rfl
  refine WJ_takeP 21 rfl (by kernel_rfl) (Rd_andU rfl rfl) rfl rfl rfl (hp _ _) ?_
  refine WJ_takeP 22 rfl (by kernel_rfl) (Rd_xorU rfl rfl) rfl rfl rfl (hp _ _) ?_
  refine WJ_all (rs := [1]) (by kernel_rfl) rfl ?_
  refine WI_one ?_
  refine WI_ac rfl (Ac_call cf97 rfl (hs := rot_ct)) rfl rfl rfl rfl ?_
  rintro _ _ ⟨⟨⟩, rfl, hA⟩
  simp only [List.cons_append, List.nil_append] at hA
  replace hA := hA.symm
  subst hA
  refine ⟨(fun _ => (by repeat (first | with_reducible exact Sub.refl | with_reducible exact Sub.nil | with_reducible refine Sub.cons (by repeat (first | with_reducible exact Ext.here | with_reducible apply Ext.there)) ?_ | with_reducible refine Sub.tail ?_))), ?_⟩
  refine WJ_all (rs := [3]) (by kernel_rfl) rfl ?_
  refine WI_one ?_
  refine WI_ac rfl (Ac_call cf97 rfl (hs := rot_ct)) rfl rfl rfl rfl ?_
  rintro _ _ ⟨⟨⟩, rfl, hA⟩
  simp only [List.cons_append, List.nil_append] at hA
  replace hA := hA.symm
  subst hA
  refine ⟨(fun _ => (by repeat (first | with_reducible exact Sub.refl | with_reducible exact Sub.nil | with_reducible refine Sub.cons (by repeat (first | with_reducible exact Ext.here | with_reducible apply Ext.there)) ?_ | with_reducible refine Sub.tail ?_))), ?_⟩
  refine WJ_takeP 4 rfl (by kernel_rfl) (Rd_xorU rfl rfl) rfl rfl rfl (hp _ _) ?_
  refine WJ_all (rs := [6]) (by kernel_rfl) rfl ?_
  refine WI_one ?_
  refine WI_ac rfl (Ac_call cf97 rfl (hs := rot_ct)) rfl rfl rfl rfl ?_
  rintro _ _ ⟨⟨⟩, rfl, hA⟩
  simp only [List.cons_append, List.nil_append] at hA
  replace hA := hA.symm
  subst hA
  refine ⟨(fun _ => (by repeat (first | with_reducible exact Sub.refl | with_reducible exact Sub.nil | with_reducible refine Sub.cons (by repeat (first | with_reducible exact Ext.here | with_reducible apply Ext.there)) ?_ | with_reducible refine Sub.tail ?_))), ?_⟩
  refine WJ_takeP 7 rfl (by kernel_rfl) (Rd_xorU rfl rfl) rfl rfl rfl (hp _ _) ?_
  refine WJ_takeP 23 rfl (by kernel_rfl) (Rd_addU rfl rfl) rfl rfl rfl (hp _ _) ?_
  refine WJ_takeP 24 rfl (by kernel_rfl) (Rd_assign rfl) rfl rfl rfl (hp _ _) ?_
  refine WJ_done (by kernel_rfl) ?_
  refine Ps_next hK4 ?_
  refine WC_sr fun K5 hK5 => ?_
  refine WL_rd (Rd_move rfl) rfl rfl rfl ?_
  refine WL_rd (Rd_move rfl) rfl rfl rfl ?_
  refine WL_rd (Rd_addU rfl rfl) rfl rfl rfl ?_
  refine WL_rd (Rd_move rfl) rfl rfl rfl ?_
  refine WL_rd (Rd_ixA 1 rfl rfl ud117 sz44) rfl rfl rfl ?_
  refine WL_rd (Rd_loadU rfl tk44) rfl rfl rfl ?_
  refine WL_rd (Rd_ixA 2 rfl rfl ud117 sz44) rfl rfl rfl ?_
  refine WL_rd (Rd_loadU rfl tk44) rfl rfl rfl ?_
  refine WL_rd (Rd_ixA 3 rfl rfl ud117 sz44) rfl rfl rfl ?_
  refine WL_rd (Rd_loadU rfl tk44) rfl rfl rfl ?_
  refine WL_rd (Rd_move rfl) rfl rfl rfl ?_
  refine WL_rd (Rd_addU rfl rfl) rfl rfl rfl ?_
  refine WL_rd (Rd_move rfl) rfl rfl rfl ?_
  refine WL_rd (Rd_ixA 5 rfl rfl ud117 sz44) rfl rfl rfl ?_
  refine WL_rd (Rd_loadU rfl tk44) rfl rfl rfl ?_
  refine WL_rd (Rd_ixA 6 rfl rfl ud117 sz44) rfl rfl rfl ?_
  refine WL_rd (Rd_loadU rfl tk44) rfl rfl rfl ?_
  refine WL_rd (Rd_aU (k := .u32) (l := (roundM x wd)) (Rd_build pls117 rfl) (by rfl)) rfl rfl rfl ?_
  refine WL_ac0 (Ac_storeW rfl rfl sz117) rfl rfl ?_
  rintro _ _ rfl
  refine WL_end hK5 ?_
  refine WC_ret ?_
  exact hret.go () (Rs1W rfl rfl tk117)

theorem mix_ct {hs : List B32} {bs : List B8} (hh : hs.length = 8 := by first | with_reducible assumption | omega) (hb : bs.length = 64 := by first | with_reducible assumption | omega) : Ct Try.prog 89 [aU .u32 hs, aU .u8 bs] [] (fun _ : Unit => aU .u32 (mixM hs bs)) (fun _ => []) := by
  refine Ct_body (n := 40) Try.func89 rfl rfl rfl fun F w0 Q hret hnorm hp => ?_
  change WC _ _ _ _ _ _ _ (F)
  have hsl := schM_len bs
  have hkl := kM_len
  refine WC_sr fun K1 hK1 => ?_
  refine WL_ac (Ac_boxW (k := .u32) rfl) rfl rfl rfl ?_
  rintro _ _ ⟨b2, rfl, rfl⟩
  refine WL_ac (Ac_boxW (k := .u8) rfl) rfl rfl rfl ?_
  rintro _ _ ⟨b3, rfl, rfl⟩
  refine WL_ac (Ac_allocW (k := .u32) (w := 32) (m := 8) zr78) rfl rfl rfl ?_
  rintro _ _ ⟨b4, rfl, rfl⟩
  refine WL_end hK1 ?_
  refine WC_sr fun K2 hK2 => ?_
  refine WL_rd (Rd_loadW rfl tk80) rfl rfl rfl ?_
  refine WL_ac (Ac_call cf93 rfl (hs := sch_ct)) rfl rfl rfl ?_
  rintro _ _ ⟨⟨⟩, rfl, hA⟩
  simp only [List.cons_append, List.nil_append] at hA
  replace hA := hA.symm
  subst hA
  refine WL_ac (Ac_call cf94 rfl (hs := const_ct)) rfl rfl rfl ?_
  rintro _ _ ⟨⟨⟩, rfl, hA⟩
  simp only [List.cons_append, List.nil_append] at hA
  replace hA := hA.symm
  subst hA
  refine WL_ac (Ac_allocW (k := .u32) (w := 32) (m := 64) zr103) rfl rfl rfl ?_
  rintro _ _ ⟨b5, rfl, rfl⟩
  refine WL_ac (Ac_allocW (k := .u32) (w := 32) (m := 64) zr103) rfl rfl rfl ?_
  rintro _ _ ⟨b6, rfl, rfl⟩
  refine WL_ac0 (Ac_storeW rfl rfl sz103) rfl rfl ?_
  rintro _ _ rfl
  refine WL_ac0 (Ac_storeW rfl rfl sz103) rfl rfl ?_
  rintro _ _ rfl
  refine WL_end hK2 ?_
  refine WC_sr fun K3 hK3 => ?_
  refine WL_rd (Rd_loadW rfl tk78) rfl rfl rfl ?_
  refine WL_ac (Ac_allocW (k := .u32) (w := 32) (m := 8) zr78) rfl rfl rfl ?_
  rintro _ _ ⟨b7, rfl, rfl⟩
  refine WL_ac0 (Ac_storeW rfl rfl sz78) rfl rfl ?_
  rintro _ _ rfl
  rw [show arr (some b7) 8 1 78 (eU .u32) hs = arr (some b7) 8 1 78 (eU .u32) (rndI hs (schM bs) 0) from rfl]
  refine WL_end hK3 ?_
  refine WC_seq fun K4 hK4 => ?_
  refine WC_sr fun K5 hK5 => ?_
  refine WL_rd (Rd_move rfl) rfl rfl rfl ?_
  refine WL_end hK5 ?_
  refine WC_block ?_
  refine WC_loop (σ := Nat) (fun i' => [(2, .pointer (some ⟨b2, 0, none⟩)), (3, .pointer (some ⟨b3, 0, none⟩)), (4, .pointer (some ⟨b4, 0, none⟩)), (5, .pointer (some ⟨b5, 0, none⟩)), (6, .pointer (some ⟨b6, 0, none⟩)), (7, .pointer (some ⟨b7, 0, none⟩)), (14, .int .i64 ((i' : Nat) : Int))]) (fun i' => arr (some b2) hs.length 1 78 (eU .u32) hs :: arr (some b4) 8 1 78 (eU .u32) (List.replicate 8 0#32) :: arr (some b5) 64 1 103 (eU .u32) (schM bs) :: arr (some b6) 64 1 103 (eU .u32) kM :: arr (some b7) 8 1 78 (eU .u32) (rndI hs (schM bs) i') :: F) (fun i' => i' ≤ 64) (fun i' => 64 - i') (0) ?_ ?_ ?_ ?_
  · omega
  · exact (Wk.cons (by first | rfl | (simp only [List.length_append, List.length_cons, List.length_nil, List.length_replicate, Nat.zero_add]; rfl) | (simp; done)) (Wk.cons (by first | rfl | (simp only [List.length_append, List.length_cons, List.length_nil, List.length_replicate, Nat.zero_add]; rfl) | (simp; done)) (Wk.cons (by first | rfl | (simp only [List.length_append, List.length_cons, List.length_nil, List.length_replicate, Nat.zero_add]; rfl) | (simp; done)) (Wk.cons (by first | rfl | (simp only [List.length_append, List.length_cons, List.length_nil, List.length_replicate, Nat.zero_add]; rfl) | (simp; done)) (Wk.cons (by first | rfl | (simp only [List.length_append, List.length_cons, List.length_nil, List.length_replicate, Nat.zero_add]; rfl) | (simp; done)) (Wk.cons (by first | rfl | (simp only [List.length_append, List.length_cons, List.length_nil, List.length_replicate, Nat.zero_add]; rfl) | (simp; done)) (Wk.cons (by first | rfl | (simp only [List.length_append, List.length_cons, List.length_nil, List.length_replicate, Nat.zero_add]; rfl) | (simp; done)) Wk.nil)))))))
  · repeat (first | with_reducible exact Sub.refl | with_reducible exact Sub.nil | with_reducible refine Sub.cons (by repeat (first | with_reducible exact Ext.here | with_reducible apply Ext.there)) ?_ | with_reducible refine Sub.tail ?_)
  · rintro i' hi K6 hK6
    have hrl := rndI_len (ws := schM bs) hh i'
    have hrl2 := rndI_len (ws := schM bs) hh (i' + 1)
    refine WC_sr fun K7 hK7 => ?_
    refine WL_rd (Rd_lssN (j := 64) rfl rfl) rfl rfl rfl ?_
    refine WL_end hK7 ?_
    refine WC_seq fun K8 hK8 => ?_
    refine WC_cond rfl (fun hc0 => ?_) (fun hc0 => ?_)
    · try simp only [decide_eq_true_eq, decide_eq_false_iff_not, Bool.not_eq_true', Bool.not_eq_false', Bool.not_eq_true, Bool.not_eq_false, Int.not_lt, Int.not_le, Nat.not_lt, Nat.not_le, Decidable.not_not, ne_eq] at hc0
      refine WC_skip ?_
      refine Ps_next hK8 ?_
      refine WC_seq fun K9 hK9 => ?_
      refine WC_block ?_
      refine WC_sr fun K10 hK10 => ?_
      refine WL_rd (Rd_move rfl) rfl rfl rfl ?_
      refine WL_rd (Rd_assign rfl) rfl rfl rfl ?_
      refine WL_end hK10 ?_
      refine WC_drawA mix (fun i => ([2, 2, 2, 2, 2, 2, 2, 2, 1, 0] : List Nat).getD i 0) ?_
      refine WJ_tk 0 (Rd_loadW rfl tk78) hp ?_ rfl (by kernel_rfl) rfl rfl rfl
      refine WJ_takeP 1 rfl (by kernel_rfl) (Rd_move rfl) rfl rfl rfl (hp _ _) ?_
      refine WJ_takeP 2 rfl (by kernel_rfl) (Rd_ixA _ rfl rfl ud103 sz44) rfl rfl rfl (hp _ _) ?_
      refine WJ_tk 3 (Rd_loadU rfl tk44) hp ?_ rfl (by kernel_rfl) rfl rfl rfl
      refine WJ_takeP 4 rfl (by kernel_rfl) (Rd_move rfl) rfl rfl rfl (hp _ _) ?_
      refine WJ_takeP 5 rfl (by kernel_rfl) (Rd_ixA _ rfl rfl ud103 sz44) rfl rfl rfl (hp _ _) ?_
      refine WJ_tk 6 (Rd_loadU rfl tk44) hp ?_ rfl (by kernel_rfl) rfl rfl rfl
      refine WJ_takeP 7 rfl (by kernel_rfl) (Rd_addU rfl rfl) rfl rfl rfl (hp _ _) ?_
      refine WJ_all (rs := [8]) (by kernel_rfl) rfl ?_
      refine WI_one ?_
      refine WI_ac rfl (Ac_call cf95 rfl (hs := round_ct)) rfl rfl rfl rfl ?_
      rintro _ _ ⟨⟨⟩, rfl, hA⟩
      simp only [List.cons_append, List.nil_append] at hA
      replace hA := hA.symm
      subst hA
      rw [← rndI_succ]
      refine ⟨(fun _ => (by repeat (first | with_reducible exact Sub.refl | with_reducible exact Sub.nil | with_reducible refine Sub.cons (by repeat (first | with_reducible exact Ext.here | with_reducible apply Ext.there)) ?_ | with_reducible refine Sub.tail ?_))), ?_⟩
      refine WJ_all (rs := [9]) (by kernel_rfl) rfl ?_
      refine WI_one ?_
      refine WI_ac0 rfl (Ac_storeW rfl rfl sz78) rfl rfl rfl ?_
      rintro _ _ rfl
      refine ⟨(fun h => by cases h), ?_⟩
      refine WJ_done (by kernel_rfl) ?_
      refine Ps_next hK9 ?_
      refine WC_region ?_
      refine WL_rd (Rd_addN (j := 1) rfl rfl) rfl rfl rfl ?_
      refine WL_rd (Rd_move rfl) rfl rfl rfl ?_
      refine WL_nil ?_
      refine Ps_wk ((Wk.cons (by first | rfl | (simp only [List.length_append, List.length_cons, List.length_nil, List.length_replicate, Nat.zero_add]; rfl) | (simp; done)) (Wk.cons (by first | rfl | (simp only [List.length_append, List.length_cons, List.length_nil, List.length_replicate, Nat.zero_add]; rfl) | (simp; done)) (Wk.cons (by first | rfl | (simp only [List.length_append, List.length_cons, List.length_nil, List.length_replicate, Nat.zero_add]; rfl) | (simp; done)) (Wk.cons (by first | rfl | (simp only [List.length_append, List.length_cons, List.length_nil, List.length_replicate, Nat.zero_add]; rfl) | (simp; done)) (Wk.cons (by first | rfl | (simp only [List.length_append, List.length_cons, List.length_nil, List.length_replicate, Nat.zero_add]; rfl) | (simp; done)) (Wk.cons (by first | rfl | (simp only [List.length_append, List.length_cons, List.length_nil, List.length_replicate, Nat.zero_add]; rfl) | (simp; done)) (Wk.cons (by first | rfl | (simp only [List.length_append, List.length_cons, List.length_nil, List.length_replicate, Nat.zero_add]; rfl) | (simp; done)) Wk.nil)))))))) (by first | with_reducible exact Sub.refl | ((try dsimp only); repeat (first | with_reducible exact Sub.refl | with_reducible exact Sub.nil | with_reducible refine Sub.cons (by repeat (first | with_reducible exact Ext.here | with_reducible apply Ext.there)) ?_ | with_reducible refine Sub.tail ?_))) (hK6 (i' + 1) (by omega) (by omega))
    · try simp only [decide_eq_true_eq, decide_eq_false_iff_not, Bool.not_eq_true', Bool.not_eq_false', Bool.not_eq_true, Bool.not_eq_false, Int.not_lt, Int.not_le, Nat.not_lt, Nat.not_le, Decidable.not_not, ne_eq] at hc0
      obtain rfl : i' = 64 := by omega
      rw [show arr (some b2) hs.length 1 78 (eU .u32) hs = arr (some b2) hs.length 1 78 (eU .u32) (addI hs (rndI hs (schM bs) 64) 0) from rfl]
      refine WC_exit ?_
      refine Ps_next hK4 ?_
      refine WC_seq fun K11 hK11 => ?_
      refine WC_sr fun K12 hK12 => ?_
      refine WL_rd (Rd_move rfl) rfl rfl rfl ?_
      refine WL_end hK12 ?_
      refine WC_block ?_
      refine WC_loop (σ := Nat) (fun i2 => [(2, .pointer (some ⟨b2, 0, none⟩)), (3, .pointer (some ⟨b3, 0, none⟩)), (4, .pointer (some ⟨b4, 0, none⟩)), (5, .pointer (some ⟨b5, 0, none⟩)), (6, .pointer (some ⟨b6, 0, none⟩)), (7, .pointer (some ⟨b7, 0, none⟩)), (27, .int .i64 ((i2 : Nat) : Int))]) (fun i2 => arr (some b2) hs.length 1 78 (eU .u32) (addI hs (rndI hs (schM bs) 64) i2) :: arr (some b4) 8 1 78 (eU .u32) (List.replicate 8 0#32) :: arr (some b7) 8 1 78 (eU .u32) (rndI hs (schM bs) 64) :: F) (fun i2 => i2 ≤ 8) (fun i2 => 8 - i2) (0) ?_ ?_ ?_ ?_
      · omega
      · exact (Wk.cons (by first | rfl | (simp only [List.length_append, List.length_cons, List.length_nil, List.length_replicate, Nat.zero_add]; rfl) | (simp; done)) (Wk.cons (by first | rfl | (simp only [List.length_append, List.length_cons, List.length_nil, List.length_replicate, Nat.zero_add]; rfl) | (simp; done)) (Wk.cons (by first | rfl | (simp only [List.length_append, List.length_cons, List.length_nil, List.length_replicate, Nat.zero_add]; rfl) | (simp; done)) (Wk.cons (by first | rfl | (simp only [List.length_append, List.length_cons, List.length_nil, List.length_replicate, Nat.zero_add]; rfl) | (simp; done)) (Wk.cons (by first | rfl | (simp only [List.length_append, List.length_cons, List.length_nil, List.length_replicate, Nat.zero_add]; rfl) | (simp; done)) (Wk.cons (by first | rfl | (simp only [List.length_append, List.length_cons, List.length_nil, List.length_replicate, Nat.zero_add]; rfl) | (simp; done)) (Wk.cons (by first | rfl | (simp only [List.length_append, List.length_cons, List.length_nil, List.length_replicate, Nat.zero_add]; rfl) | (simp; done)) Wk.nil)))))))
      · repeat (first | with_reducible exact Sub.refl | with_reducible exact Sub.nil | with_reducible refine Sub.cons (by repeat (first | with_reducible exact Ext.here | with_reducible apply Ext.there)) ?_ | with_reducible refine Sub.tail ?_)
      · rintro i2 hj K13 hK13
        have hal := addI_len (xs := rndI hs (schM bs) 64) hh i2
        refine WC_sr fun K14 hK14 => ?_
        refine WL_rd (Rd_lssN (j := 8) rfl rfl) rfl rfl rfl ?_
        refine WL_end hK14 ?_
        refine WC_seq fun K15 hK15 => ?_
        refine WC_cond rfl (fun hc1 => ?_) (fun hc1 => ?_)
        · try simp only [decide_eq_true_eq, decide_eq_false_iff_not, Bool.not_eq_true', Bool.not_eq_false', Bool.not_eq_true, Bool.not_eq_false, Int.not_lt, Int.not_le, Nat.not_lt, Nat.not_le, Decidable.not_not, ne_eq] at hc1
          refine WC_skip ?_
          refine Ps_next hK15 ?_
          refine WC_seq fun K16 hK16 => ?_
          refine WC_block ?_
          refine WC_sr fun K17 hK17 => ?_
          refine WL_rd (Rd_move rfl) rfl rfl rfl ?_
          refine WL_rd (Rd_assign rfl) rfl rfl rfl ?_
          refine WL_end hK17 ?_
          refine WC_drawA mix (fun i => ([2, 2, 2, 2, 2, 2, 2, 2, 0] : List Nat).getD i 0) ?_
          refine WJ_takeP 0 rfl (by kernel_rfl) (Rd_move rfl) rfl rfl rfl (hp _ _) ?_
          refine WJ_takeP 1 rfl (by kernel_rfl) (Rd_ixA _ rfl rfl ud78 sz44) rfl rfl rfl (hp _ _) ?_
          refine WJ_tk 2 (Rd_loadU rfl tk44) hp ?_ rfl (by kernel_rfl) rfl rfl rfl
          refine WJ_takeP 3 rfl (by kernel_rfl) (Rd_move rfl) rfl rfl rfl (hp _ _) ?_
          refine WJ_takeP 4 rfl (by kernel_rfl) (Rd_ixA _ rfl rfl ud78 sz44) rfl rfl rfl (hp _ _) ?_
          refine WJ_tk 5 (Rd_loadU rfl tk44) hp ?_ rfl (by kernel_rfl) rfl rfl rfl
          refine WJ_takeP 6 rfl (by kernel_rfl) (Rd_addU rfl rfl) rfl rfl rfl (hp _ _) ?_
          refine WJ_takeP 7 rfl (by kernel_rfl) (Rd_ixA _ rfl rfl ud78 sz44) rfl rfl rfl (hp _ _) ?_
          refine WJ_all (rs := [8]) (by kernel_rfl) rfl ?_
          refine WI_one ?_
          refine WI_ac0 rfl (Ac_storeU rfl rfl sz44) rfl rfl rfl ?_
          rintro _ _ rfl
          refine ⟨(fun h => by cases h), ?_⟩
          rw [← addI_succ]
          refine WJ_done (by kernel_rfl) ?_
          refine Ps_next hK16 ?_
          refine WC_region ?_
          refine WL_rd (Rd_addN (j := 1) rfl rfl) rfl rfl rfl ?_
          refine WL_rd (Rd_move rfl) rfl rfl rfl ?_
          refine WL_nil ?_
          refine Ps_wk ((Wk.cons (by first | rfl | (simp only [List.length_append, List.length_cons, List.length_nil, List.length_replicate, Nat.zero_add]; rfl) | (simp; done)) (Wk.cons (by first | rfl | (simp only [List.length_append, List.length_cons, List.length_nil, List.length_replicate, Nat.zero_add]; rfl) | (simp; done)) (Wk.cons (by first | rfl | (simp only [List.length_append, List.length_cons, List.length_nil, List.length_replicate, Nat.zero_add]; rfl) | (simp; done)) (Wk.cons (by first | rfl | (simp only [List.length_append, List.length_cons, List.length_nil, List.length_replicate, Nat.zero_add]; rfl) | (simp; done)) (Wk.cons (by first | rfl | (simp only [List.length_append, List.length_cons, List.length_nil, List.length_replicate, Nat.zero_add]; rfl) | (simp; done)) (Wk.cons (by first | rfl | (simp only [List.length_append, List.length_cons, List.length_nil, List.length_replicate, Nat.zero_add]; rfl) | (simp; done)) (Wk.cons (by first | rfl | (simp only [List.length_append, List.length_cons, List.length_nil, List.length_replicate, Nat.zero_add]; rfl) | (simp; done)) Wk.nil)))))))) (by first | with_reducible exact Sub.refl | ((try dsimp only); repeat (first | with_reducible exact Sub.refl | with_reducible exact Sub.nil | with_reducible refine Sub.cons (by repeat (first | with_reducible exact Ext.here | with_reducible apply Ext.there)) ?_ | with_reducible refine Sub.tail ?_))) (hK13 (i2 + 1) (by omega) (by omega))
        · try simp only [decide_eq_true_eq, decide_eq_false_iff_not, Bool.not_eq_true', Bool.not_eq_false', Bool.not_eq_true, Bool.not_eq_false, Int.not_lt, Int.not_le, Nat.not_lt, Nat.not_le, Decidable.not_not, ne_eq] at hc1
          obtain rfl : i2 = 8 := by omega
          rw [show mixM hs bs = addI hs (rndI hs (schM bs) 64) 8 from rfl] at hret
          refine WC_exit ?_
          refine Ps_next hK11 ?_
          refine WC_sr fun K18 hK18 => ?_
          refine WL_rd (Rd_loadW rfl tk78) rfl rfl rfl ?_
          refine WL_ac0 (Ac_storeW rfl rfl sz78) rfl rfl ?_
          rintro _ _ rfl
          refine WL_end hK18 ?_
          refine WC_ret ?_
          exact hret.go () (Rs1W rfl rfl tk78)
end Go.Proofs.Ytlcafifjhilleaa
namespace Go.Proofs.Ytlcafifjhilleaa
open Go.RowKit Go.SL Go.ShM
set_option maxHeartbeats 1000000
set_option maxRecDepth 20000
set_option linter.all false
theorem cf72 : cfn Try.prog 72 = true := by kernel_rfl
theorem pls78 : pls Try.prog 78 = some ([.int .u32 0, .int .u32 0, .int .u32 0, .int .u32 0, .int .u32 0, .int .u32 0, .int .u32 0, .int .u32 0], [(0, 1), (1, 1), (2, 1), (3, 1), (4, 1), (5, 1), (6, 1), (7, 1)]) := by kernel_rfl
theorem turn_ct {x : B32} {n : BitVec 64} {k : Int} (hk : ∀ x, turnR x n = rotM x k) : Ct Try.prog 72 [.int .u32 ((x.toNat : Nat) : Int), .int .u64 ((n.toNat : Nat) : Int)] [] (fun _ : Unit => .int .u32 (((rotM x k).toNat : Nat) : Int)) (fun _ => []) := by
  refine Ct_body (n := 13) Try.func72 rfl rfl rfl fun F w0 Q hret hnorm hp => ?_
  change WC _ _ _ _ _ _ _ (F)
  refine WC_sr fun K1 hK1 => ?_
  refine WL_rd (Rd_assign rfl) rfl rfl rfl ?_
  refine WL_end hK1 ?_
  refine WC_sr fun K2 hK2 => ?_
  refine WL_rd (Rd_move rfl) rfl rfl rfl ?_
  refine WL_rd (Rd_move rfl) rfl rfl rfl ?_
  refine WL_rd (Rd_shrU rfl rfl) rfl rfl rfl ?_
  refine WL_rd (Rd_move rfl) rfl rfl rfl ?_
  refine WL_rd (Rd_move rfl) rfl rfl rfl ?_
  refine WL_rd (Rd_subU (a := 32#64) rfl rfl) rfl rfl rfl ?_
  refine WL_rd (Rd_shlU rfl rfl) rfl rfl rfl ?_
  refine WL_rd (Rd_orU rfl rfl) rfl rfl rfl ?_
  refine WL_rd (Rd_assign rfl) rfl rfl rfl ?_
  refine WL_end hK2 ?_
  refine WC_ret ?_
  rw [← hk x] at hret
  exact hret.go () (Rs1 rfl rfl)

theorem turn6 (x : B32) : turnR x 6#64 = rotM x (-6) := BitVec.or_comm _ _

theorem turn11 (x : B32) : turnR x 11#64 = rotM x (-11) := BitVec.or_comm _ _

theorem turn25 (x : B32) : turnR x 25#64 = rotM x (-25) := BitVec.or_comm _ _

theorem turn2 (x : B32) : turnR x 2#64 = rotM x (-2) := BitVec.or_comm _ _

theorem turn13 (x : B32) : turnR x 13#64 = rotM x (-13) := BitVec.or_comm _ _

theorem turn22 (x : B32) : turnR x 22#64 = rotM x (-22) := BitVec.or_comm _ _

theorem turn7 (x : B32) : turnR x 7#64 = rotM x (-7) := BitVec.or_comm _ _

theorem turn18 (x : B32) : turnR x 18#64 = rotM x (-18) := BitVec.or_comm _ _

theorem turn17 (x : B32) : turnR x 17#64 = rotM x (-17) := BitVec.or_comm _ _

theorem turn19 (x : B32) : turnR x 19#64 = rotM x (-19) := BitVec.or_comm _ _

theorem constR_ct   : Ct Try.prog 71 [] [] (fun _ : Unit => aU .u32 kM) (fun _ => []) := by
  refine Ct_body (n := 2) Try.func71 rfl rfl rfl fun F w0 Q hret hnorm hp => ?_
  change WC _ _ _ _ _ _ _ (F)
  have hkl := kM_len
  refine WC_sr fun K1 hK1 => ?_
  refine WL_ac (Ac_allocW (k := .u32) (w := 32) (m := 64) zr103) rfl rfl rfl ?_
  rintro _ _ ⟨b0, rfl, rfl⟩
  refine WL_end hK1 ?_
  refine WC_sr fun K2 hK2 => ?_
  refine WL_rd (Rd_aU (k := .u32) (l := kM) (Rd_build pls103 rfl) (by rfl)) rfl rfl rfl ?_
  refine WL_ac0 (Ac_storeW rfl rfl sz103) rfl rfl ?_
  rintro _ _ rfl
  refine WL_end hK2 ?_
  refine WC_ret ?_
  exact hret.go () (Rs1W rfl rfl tk103)

theorem initR_ct   : Ct Try.prog 40 [] [] (fun _ : Unit => aU .u32 iniM) (fun _ => []) := by
  refine Ct_body (n := 2) Try.func40 rfl rfl rfl fun F w0 Q hret hnorm hp => ?_
  change WC _ _ _ _ _ _ _ (F)
  have hkl := iniM_len
  refine WC_sr fun K1 hK1 => ?_
  refine WL_ac (Ac_allocW (k := .u32) (w := 32) (m := 8) zr78) rfl rfl rfl ?_
  rintro _ _ ⟨b0, rfl, rfl⟩
  refine WL_end hK1 ?_
  refine WC_sr fun K2 hK2 => ?_
  refine WL_rd (Rd_aU (k := .u32) (l := iniM) (Rd_build pls78 rfl) (by rfl)) rfl rfl rfl ?_
  refine WL_ac0 (Ac_storeW rfl rfl sz78) rfl rfl ?_
  rintro _ _ rfl
  refine WL_end hK2 ?_
  refine WC_ret ?_
  exact hret.go () (Rs1W rfl rfl tk78)

theorem wrd_ct {bs : List B8} (hb : bs.length = 64 := by first | with_reducible assumption | omega) : Ct Try.prog 70 [aU .u8 bs] [] (fun _ : Unit => aU .u32 (schM bs)) (fun _ => []) := by
  refine Ct_body (n := 77) Try.func70 rfl rfl rfl fun F w0 Q hret hnorm hp => ?_
  change WC _ _ _ _ _ _ _ (F)
  refine WC_sr fun K1 hK1 => ?_
  refine WL_ac (Ac_boxW (k := .u8) rfl) rfl rfl rfl ?_
  rintro _ _ ⟨b1, rfl, rfl⟩
  refine WL_ac (Ac_allocW (k := .u32) (w := 32) (m := 64) zr103) rfl rfl rfl ?_
  rintro _ _ ⟨b2, rfl, rfl⟩
  refine WL_end hK1 ?_
  refine WC_sr fun K2 hK2 => ?_
  refine WL_ac (Ac_allocW (k := .u32) (w := 32) (m := 64) zr103) rfl rfl rfl ?_
  rintro _ _ ⟨b3, rfl, rfl⟩
  rw [show (List.replicate 64 0#32) = schI bs 0 from rfl]
  refine WL_end hK2 ?_
  refine WC_seq fun K3 hK3 => ?_
  refine WC_sr fun K4 hK4 => ?_
  refine WL_rd (Rd_assign rfl) rfl rfl rfl ?_
  refine WL_end hK4 ?_
  refine WC_block ?_
  refine WC_loop (σ := Nat) (fun i' => [(1, .pointer (some ⟨b1, 0, none⟩)), (2, .pointer (some ⟨b2, 0, none⟩)), (3, .pointer (some ⟨b3, 0, none⟩)), (4, .int .i64 ((i' : Nat) : Int))]) (fun i' => arr (some b1) bs.length 1 80 (eU .u8) bs :: arr (some b3) 64 1 103 (eU .u32) (schI bs i') :: arr (some b2) 64 1 103 (eU .u32) (schI bs 0) :: F) (fun i' => i' ≤ 16) (fun i' => 16 - i') (0) ?_ ?_ ?_ ?_
  · omega
  · exact (Wk.cons (by first | rfl | (simp only [List.length_append, List.length_cons, List.length_nil, List.length_replicate, Nat.zero_add]; rfl) | (simp; done)) (Wk.cons (by first | rfl | (simp only [List.length_append, List.length_cons, List.length_nil, List.length_replicate, Nat.zero_add]; rfl) | (simp; done)) (Wk.cons (by first | rfl | (simp only [List.length_append, List.length_cons, List.length_nil, List.length_replicate, Nat.zero_add]; rfl) | (simp; done)) (Wk.cons (by first | rfl | (simp only [List.length_append, List.length_cons, List.length_nil, List.length_replicate, Nat.zero_add]; rfl) | (simp; done)) Wk.nil))))
  · repeat (first | with_reducible exact Sub.refl | with_reducible exact Sub.nil | with_reducible refine Sub.cons (by repeat (first | with_reducible exact Ext.here | with_reducible apply Ext.there)) ?_ | with_reducible refine Sub.tail ?_)
  · rintro i' hi K5 hK5
    refine WC_seq fun K6 hK6 => ?_
    refine WC_sr fun K7 hK7 => ?_
    refine WL_rd (Rd_move rfl) rfl rfl rfl ?_
    refine WL_rd (Rd_lssN (j := 16) rfl rfl) rfl rfl rfl ?_
    refine WL_end hK7 ?_
    refine WC_cond rfl (fun hc0 => ?_) (fun hc0 => ?_)
    · try simp only [decide_eq_true_eq, decide_eq_false_iff_not, Bool.not_eq_true', Bool.not_eq_false', Bool.not_eq_true, Bool.not_eq_false, Int.not_lt, Int.not_le, Nat.not_lt, Nat.not_le, Decidable.not_not, ne_eq] at hc0
      rw [← wrdI_0 (bs := bs) (i := i') (by omega)]
      refine WC_skip ?_
      refine Ps_next hK6 ?_
      refine WC_seq fun K8 hK8 => ?_
      refine WC_block ?_
      refine WC_sr fun K9 hK9 => ?_
      refine WL_rd (Rd_assign rfl) rfl rfl rfl ?_
      refine WL_end hK9 ?_
      refine WC_block ?_
      refine WC_loop (σ := Nat) (fun k' => [(1, .pointer (some ⟨b1, 0, none⟩)), (2, .pointer (some ⟨b2, 0, none⟩)), (3, .pointer (some ⟨b3, 0, none⟩)), (4, .int .i64 ((i' : Nat) : Int)), (5, .int .i64 ((k' : Nat) : Int))]) (fun k' => arr (some b1) bs.length 1 80 (eU .u8) bs :: arr (some b3) 64 1 103 (eU .u32) (wrdI bs i' k') :: arr (some b2) 64 1 103 (eU .u32) (schI bs 0) :: F) (fun k' => k' ≤ 4) (fun k' => 4 - k') (0) ?_ ?_ ?_ ?_
      · omega
      · exact (Wk.cons (by first | rfl | (simp only [List.length_append, List.length_cons, List.length_nil, List.length_replicate, Nat.zero_add]; rfl) | (simp; done)) (Wk.cons (by first | rfl | (simp only [List.length_append, List.length_cons, List.length_nil, List.length_replicate, Nat.zero_add]; rfl) | (simp; done)) (Wk.cons (by first | rfl | (simp only [List.length_append, List.length_cons, List.length_nil, List.length_replicate, Nat.zero_add]; rfl) | (simp; done)) (Wk.cons (by first | rfl | (simp only [List.length_append, List.length_cons, List.length_nil, List.length_replicate, Nat.zero_add]; rfl) | (simp; done)) (Wk.cons (by first | rfl | (simp only [List.length_append, List.length_cons, List.length_nil, List.length_replicate, Nat.zero_add]; rfl) | (simp; done)) Wk.nil)))))
      · repeat (first | with_reducible exact Sub.refl | with_reducible exact Sub.nil | with_reducible refine Sub.cons (by repeat (first | with_reducible exact Ext.here | with_reducible apply Ext.there)) ?_ | with_reducible refine Sub.tail ?_)
      · rintro k' hk K10 hK10
        have hl3 := wrdI_len bs i' k'
        refine WC_seq fun K11 hK11 => ?_
        refine WC_sr fun K12 hK12 => ?_
        refine WL_rd (Rd_move rfl) rfl rfl rfl ?_
        refine WL_rd (Rd_lssN (j := 4) rfl rfl) rfl rfl rfl ?_
        refine WL_end hK12 ?_
        refine WC_cond rfl (fun hc1 => ?_) (fun hc1 => ?_)
        · try simp only [decide_eq_true_eq, decide_eq_false_iff_not, Bool.not_eq_true', Bool.not_eq_false', Bool.not_eq_true, Bool.not_eq_false, Int.not_lt, Int.not_le, Nat.not_lt, Nat.not_le, Decidable.not_not, ne_eq] at hc1
          refine WC_skip ?_
          refine Ps_next hK11 ?_
          refine WC_seq fun K13 hK13 => ?_
          refine WC_block ?_
          refine WC_drawA mix (fun i => ([2, 2, 2, 2, 2, 2, 2, 2, 2, 2, 2, 2, 2, 2, 0] : List Nat).getD i 0) ?_
          refine WJ_takeP 0 rfl (by kernel_rfl) (Rd_move rfl) rfl rfl rfl (hp _ _) ?_
          refine WJ_takeP 1 rfl (by kernel_rfl) (Rd_move rfl) rfl rfl rfl (hp _ _) ?_
          refine WJ_takeP 2 rfl (by kernel_rfl) (Rd_ixA _ rfl rfl ud103 sz44) rfl rfl rfl (hp _ _) ?_
          refine WJ_tk 3 (Rd_loadU rfl tk44) hp ?_ rfl (by kernel_rfl) rfl rfl rfl
          refine WJ_takeP 4 rfl (by kernel_rfl) (Rd_mulU (b := 256#32) rfl rfl) rfl rfl rfl (hp _ _) ?_
          refine WJ_takeP 5 rfl (by kernel_rfl) (Rd_move rfl) rfl rfl rfl (hp _ _) ?_
          refine WJ_takeP 6 rfl (by kernel_rfl) (Rd_mulN (i := 4) rfl rfl) rfl rfl rfl (hp _ _) ?_
          refine WJ_takeP 7 rfl (by kernel_rfl) (Rd_move rfl) rfl rfl rfl (hp _ _) ?_
          refine WJ_takeP 8 rfl (by kernel_rfl) (Rd_addN rfl rfl) rfl rfl rfl (hp _ _) ?_
          refine WJ_takeP 9 rfl (by kernel_rfl) (Rd_ixA _ rfl rfl ud80 sz5) rfl rfl rfl (hp _ _) ?_
          refine WJ_tk 10 (Rd_loadU rfl tk5) hp ?_ rfl (by kernel_rfl) rfl rfl rfl
          refine WJ_takeP 11 rfl (by kernel_rfl) (Rd_convU rfl ikd5_44 (h' := uk32)) rfl rfl rfl (hp _ _) ?_
          refine WJ_takeP 12 rfl (by kernel_rfl) (Rd_addU rfl rfl) rfl rfl rfl (hp _ _) ?_
          refine WJ_takeP 13 rfl (by kernel_rfl) (Rd_ixA _ rfl rfl ud103 sz44) rfl rfl rfl (hp _ _) ?_
          refine WJ_all (rs := [14]) (by kernel_rfl) rfl ?_
          refine WI_one ?_
          refine WI_ac0 rfl (Ac_storeU rfl rfl sz44) rfl rfl rfl ?_
          rintro _ _ rfl
          refine ⟨(fun h => by cases h), ?_⟩
          rw [wrdI_succ hc0]
          refine WJ_done (by kernel_rfl) ?_
          refine Ps_next hK13 ?_
          refine WC_region ?_
          refine WL_rd (Rd_move rfl) rfl rfl rfl ?_
          refine WL_rd (Rd_addN (j := 1) rfl rfl) rfl rfl rfl ?_
          refine WL_rd (Rd_assign rfl) rfl rfl rfl ?_
          refine WL_nil ?_
          refine Ps_wk ((Wk.cons (by first | rfl | (simp only [List.length_append, List.length_cons, List.length_nil, List.length_replicate, Nat.zero_add]; rfl) | (simp; done)) (Wk.cons (by first | rfl | (simp only [List.length_append, List.length_cons, List.length_nil, List.length_replicate, Nat.zero_add]; rfl) | (simp; done)) (Wk.cons (by first | rfl | (simp only [List.length_append, List.length_cons, List.length_nil, List.length_replicate, Nat.zero_add]; rfl) | (simp; done)) (Wk.cons (by first | rfl | (simp only [List.length_append, List.length_cons, List.length_nil, List.length_replicate, Nat.zero_add]; rfl) | (simp; done)) (Wk.cons (by first | rfl | (simp only [List.length_append, List.length_cons, List.length_nil, List.length_replicate, Nat.zero_add]; rfl) | (simp; done)) Wk.nil)))))) (by first | with_reducible exact Sub.refl | ((try dsimp only); repeat (first | with_reducible exact Sub.refl | with_reducible exact Sub.nil | with_reducible refine Sub.cons (by repeat (first | with_reducible exact Ext.here | with_reducible apply Ext.there)) ?_ | with_reducible refine Sub.tail ?_))) (hK10 (k' + 1) (by omega) (by omega))
        · try simp only [decide_eq_true_eq, decide_eq_false_iff_not, Bool.not_eq_true', Bool.not_eq_false', Bool.not_eq_true, Bool.not_eq_false, Int.not_lt, Int.not_le, Nat.not_lt, Nat.not_le, Decidable.not_not, ne_eq] at hc1
          obtain rfl : k' = 4 := by omega
          rw [wrdI_4 hc0]
          refine WC_exit ?_
          refine Ps_next hK8 ?_
          refine WC_region ?_
          refine WL_rd (Rd_move rfl) rfl rfl rfl ?_
          refine WL_rd (Rd_addN (j := 1) rfl rfl) rfl rfl rfl ?_
          refine WL_rd (Rd_assign rfl) rfl rfl rfl ?_
          refine WL_nil ?_
          refine Ps_wk ((Wk.cons (by first | rfl | (simp only [List.length_append, List.length_cons, List.length_nil, List.length_replicate, Nat.zero_add]; rfl) | (simp; done)) (Wk.cons (by first | rfl | (simp only [List.length_append, List.length_cons, List.length_nil, List.length_replicate, Nat.zero_add]; rfl) | (simp; done)) (Wk.cons (by first | rfl | (simp only [List.length_append, List.length_cons, List.length_nil, List.length_replicate, Nat.zero_add]; rfl) | (simp; done)) (Wk.cons (by first | rfl | (simp only [List.length_append, List.length_cons, List.length_nil, List.length_replicate, Nat.zero_add]; rfl) | (simp; done)) Wk.nil))))) (by first | with_reducible exact Sub.refl | ((try dsimp only); repeat (first | with_reducible exact Sub.refl | with_reducible exact Sub.nil | with_reducible refine Sub.cons (by repeat (first | with_reducible exact Ext.here | with_reducible apply Ext.there)) ?_ | with_reducible refine Sub.tail ?_))) (hK5 (i' + 1) (by omega) (by omega))
    · try simp only [decide_eq_true_eq, decide_eq_false_iff_not, Bool.not_eq_true', Bool.not_eq_false', Bool.not_eq_true, Bool.not_eq_false, Int.not_lt, Int.not_le, Nat.not_lt, Nat.not_le, Decidable.not_not, ne_eq] at hc0
      obtain rfl : i' = 16 := by omega
      refine WC_exit ?_
      refine Ps_next hK3 ?_
      refine WC_seq fun K14 hK14 => ?_
      refine WC_sr fun K15 hK15 => ?_
      refine WL_rd (Rd_assign rfl) rfl rfl rfl ?_
      refine WL_end hK15 ?_
      refine WC_block ?_
      refine WC_loop (σ := Nat) (fun i2 => [(1, .pointer (some ⟨b1, 0, none⟩)), (2, .pointer (some ⟨b2, 0, none⟩)), (3, .pointer (some ⟨b3, 0, none⟩)), (6, .int .i64 ((i2 : Nat) : Int))]) (fun i2 => arr (some b1) bs.length 1 80 (eU .u8) bs :: arr (some b3) 64 1 103 (eU .u32) (schI bs i2) :: arr (some b2) 64 1 103 (eU .u32) (schI bs 0) :: F) (fun i2 => 16 ≤ i2 ∧ i2 ≤ 64) (fun i2 => 64 - i2) (16) ?_ ?_ ?_ ?_
      · exact ⟨by omega, by omega⟩
      · exact (Wk.cons (by first | rfl | (simp only [List.length_append, List.length_cons, List.length_nil, List.length_replicate, Nat.zero_add]; rfl) | (simp; done)) (Wk.cons (by first | rfl | (simp only [List.length_append, List.length_cons, List.length_nil, List.length_replicate, Nat.zero_add]; rfl) | (simp; done)) (Wk.cons (by first | rfl | (simp only [List.length_append, List.length_cons, List.length_nil, List.length_replicate, Nat.zero_add]; rfl) | (simp; done)) (Wk.cons (by first | rfl | (simp only [List.length_append, List.length_cons, List.length_nil, List.length_replicate, Nat.zero_add]; rfl) | (simp; done)) Wk.nil))))
      · repeat (first | with_reducible exact Sub.refl | with_reducible exact Sub.nil | with_reducible refine Sub.cons (by repeat (first | with_reducible exact Ext.here | with_reducible apply Ext.there)) ?_ | with_reducible refine Sub.tail ?_)
      · rintro i2 ⟨hj1, hj⟩ K16 hK16
        have hl3 := schI_len bs i2
        refine WC_seq fun K17 hK17 => ?_
        refine WC_sr fun K18 hK18 => ?_
        refine WL_rd (Rd_move rfl) rfl rfl rfl ?_
        refine WL_rd (Rd_lssN (j := 64) rfl rfl) rfl rfl rfl ?_
        refine WL_end hK18 ?_
        refine WC_cond rfl (fun hc2 => ?_) (fun hc2 => ?_)
        · try simp only [decide_eq_true_eq, decide_eq_false_iff_not, Bool.not_eq_true', Bool.not_eq_false', Bool.not_eq_true, Bool.not_eq_false, Int.not_lt, Int.not_le, Nat.not_lt, Nat.not_le, Decidable.not_not, ne_eq] at hc2
          refine WC_skip ?_
          refine Ps_next hK17 ?_
          refine WC_seq fun K19 hK19 => ?_
          refine WC_block ?_
          refine WC_sr fun K20 hK20 => ?_
          refine WL_rd (Rd_move rfl) rfl rfl rfl ?_
          refine WL_rd (Rd_subN (j := 15) rfl rfl) rfl rfl rfl ?_
          refine WL_rd (Rd_ixA _ rfl rfl ud103 sz44) rfl rfl rfl ?_
          refine WL_rd (Rd_loadU rfl tk44) rfl rfl rfl ?_
          refine WL_rd (Rd_assign rfl) rfl rfl rfl ?_
          refine WL_end hK20 ?_
          refine WC_sr fun K21 hK21 => ?_
          refine WL_rd (Rd_move rfl) rfl rfl rfl ?_
          refine WL_rd (Rd_subN (j := 2) rfl rfl) rfl rfl rfl ?_
          refine WL_rd (Rd_ixA _ rfl rfl ud103 sz44) rfl rfl rfl ?_
          refine WL_rd (Rd_loadU rfl tk44) rfl rfl rfl ?_
          refine WL_rd (Rd_assign rfl) rfl rfl rfl ?_
          refine WL_end hK21 ?_
          refine WC_sr fun K22 hK22 => ?_
          refine WL_rd (Rd_move rfl) rfl rfl rfl ?_
          refine WL_ac (Ac_call cf72 rfl (hs := turn_ct (n := 7#64) (k := -7) (hk := turn7))) rfl rfl rfl ?_
          rintro _ _ ⟨⟨⟩, rfl, hA⟩
          simp only [List.cons_append, List.nil_append] at hA
          replace hA := hA.symm
          subst hA
          refine WL_rd (Rd_move rfl) rfl rfl rfl ?_
          refine WL_ac (Ac_call cf72 rfl (hs := turn_ct (n := 18#64) (k := -18) (hk := turn18))) rfl rfl rfl ?_
          rintro _ _ ⟨⟨⟩, rfl, hA⟩
          simp only [List.cons_append, List.nil_append] at hA
          replace hA := hA.symm
          subst hA
          refine WL_rd (Rd_xorU rfl rfl) rfl rfl rfl ?_
          refine WL_rd (Rd_move rfl) rfl rfl rfl ?_
          refine WL_rd (Rd_shrU (j := 3) rfl rfl) rfl rfl rfl ?_
          refine WL_rd (Rd_xorU rfl rfl) rfl rfl rfl ?_
          refine WL_rd (Rd_assign rfl) rfl rfl rfl ?_
          refine WL_end hK22 ?_
          refine WC_sr fun K23 hK23 => ?_
          refine WL_rd (Rd_move rfl) rfl rfl rfl ?_
          refine WL_ac (Ac_call cf72 rfl (hs := turn_ct (n := 17#64) (k := -17) (hk := turn17))) rfl rfl rfl ?_
          rintro _ _ ⟨⟨⟩, rfl, hA⟩
          simp only [List.cons_append, List.nil_append] at hA
          replace hA := hA.symm
          subst hA
          refine WL_rd (Rd_move rfl) rfl rfl rfl ?_
          refine WL_ac (Ac_call cf72 rfl (hs := turn_ct (n := 19#64) (k := -19) (hk := turn19))) rfl rfl rfl ?_
          rintro _ _ ⟨⟨⟩, rfl, hA⟩
          simp only [List.cons_append, List.nil_append] at hA
          replace hA := hA.symm
          subst hA
          refine WL_rd (Rd_xorU rfl rfl) rfl rfl rfl ?_
          refine WL_rd (Rd_move rfl) rfl rfl rfl ?_
          refine WL_rd (Rd_shrU (j := 10) rfl rfl) rfl rfl rfl ?_
          refine WL_rd (Rd_xorU rfl rfl) rfl rfl rfl ?_
          refine WL_rd (Rd_assign rfl) rfl rfl rfl ?_
          refine WL_end hK23 ?_
          refine WC_drawA mix (fun i => ([2, 2, 2, 2, 2, 2, 2, 2, 2, 2, 2, 2, 2, 2, 2, 0] : List Nat).getD i 0) ?_
          refine WJ_takeP 0 rfl (by kernel_rfl) (Rd_move rfl) rfl rfl rfl (hp _ _) ?_
          refine WJ_takeP 1 rfl (by kernel_rfl) (Rd_move rfl) rfl rfl rfl (hp _ _) ?_
          refine WJ_takeP 2 rfl (by kernel_rfl) (Rd_move rfl) rfl rfl rfl (hp _ _) ?_
          refine WJ_takeP 3 rfl (by kernel_rfl) (Rd_subN (j := 7) rfl rfl) rfl rfl rfl (hp _ _) ?_
          refine WJ_takeP 4 rfl (by kernel_rfl) (Rd_ixA _ rfl rfl ud103 sz44) rfl rfl rfl (hp _ _) ?_
          refine WJ_tk 5 (Rd_loadU rfl tk44) hp ?_ rfl (by kernel_rfl) rfl rfl rfl
          refine WJ_takeP 6 rfl (by kernel_rfl) (Rd_addU rfl rfl) rfl rfl rfl (hp _ _) ?_
          refine WJ_takeP 7 rfl (by kernel_rfl) (Rd_move rfl) rfl rfl rfl (hp _ _) ?_
          refine WJ_takeP 8 rfl (by kernel_rfl) (Rd_addU rfl rfl) rfl rfl rfl (hp _ _) ?_
          refine WJ_takeP 9 rfl (by kernel_rfl) (Rd_move rfl) rfl rfl rfl (hp _ _) ?_
          refine WJ_takeP 10 rfl (by kernel_rfl) (Rd_subN (j := 16) rfl rfl) rfl rfl rfl (hp _ _) ?_
          refine WJ_takeP 11 rfl (by kernel_rfl) (Rd_ixA _ rfl rfl ud103 sz44) rfl rfl rfl (hp _ _) ?_
          refine WJ_tk 12 (Rd_loadU rfl tk44) hp ?_ rfl (by kernel_rfl) rfl rfl rfl
          refine WJ_takeP 13 rfl (by kernel_rfl) (Rd_addU rfl rfl) rfl rfl rfl (hp _ _) ?_
          refine WJ_takeP 14 rfl (by kernel_rfl) (Rd_ixA _ rfl rfl ud103 sz44) rfl rfl rfl (hp _ _) ?_
          refine WJ_all (rs := [15]) (by kernel_rfl) rfl ?_
          refine WI_one ?_
          refine WI_ac0 rfl (Ac_storeU rfl rfl sz44) rfl rfl rfl ?_
          rintro _ _ rfl
          refine ⟨(fun h => by cases h), ?_⟩
          rw [← schI_hi (show ¬ i2 < 16 from by omega)]
          refine WJ_done (by kernel_rfl) ?_
          refine Ps_next hK19 ?_
          refine WC_region ?_
          refine WL_rd (Rd_move rfl) rfl rfl rfl ?_
          refine WL_rd (Rd_addN (j := 1) rfl rfl) rfl rfl rfl ?_
          refine WL_rd (Rd_assign rfl) rfl rfl rfl ?_
          refine WL_nil ?_
          refine Ps_wk ((Wk.cons (by first | rfl | (simp only [List.length_append, List.length_cons, List.length_nil, List.length_replicate, Nat.zero_add]; rfl) | (simp; done)) (Wk.cons (by first | rfl | (simp only [List.length_append, List.length_cons, List.length_nil, List.length_replicate, Nat.zero_add]; rfl) | (simp; done)) (Wk.cons (by first | rfl | (simp only [List.length_append, List.length_cons, List.length_nil, List.length_replicate, Nat.zero_add]; rfl) | (simp; done)) (Wk.cons (by first | rfl | (simp only [List.length_append, List.length_cons, List.length_nil, List.length_replicate, Nat.zero_add]; rfl) | (simp; done)) Wk.nil))))) (by first | with_reducible exact Sub.refl | ((try dsimp only); repeat (first | with_reducible exact Sub.refl | with_reducible exact Sub.nil | with_reducible refine Sub.cons (by repeat (first | with_reducible exact Ext.here | with_reducible apply Ext.there)) ?_ | with_reducible refine Sub.tail ?_))) (hK16 (i2 + 1) (⟨by omega, by omega⟩) (by omega))
        · try simp only [decide_eq_true_eq, decide_eq_false_iff_not, Bool.not_eq_true', Bool.not_eq_false', Bool.not_eq_true, Bool.not_eq_false, Int.not_lt, Int.not_le, Nat.not_lt, Nat.not_le, Decidable.not_not, ne_eq] at hc2
          obtain rfl : i2 = 64 := by omega
          have hl0 := schI_len bs 0
          rw [show schM bs = schI bs 64 from rfl] at hret
          refine WC_exit ?_
          refine Ps_next hK14 ?_
          refine WC_sr fun K24 hK24 => ?_
          refine WL_rd (Rd_loadW rfl tk103) rfl rfl rfl ?_
          refine WL_ac0 (Ac_storeW rfl rfl sz103) rfl rfl ?_
          rintro _ _ rfl
          refine WL_end hK24 ?_
          refine WC_ret ?_
          exact hret.go () (Rs1W rfl rfl tk103)
end Go.Proofs.Ytlcafifjhilleaa
namespace Go.Proofs.Ytlcafifjhilleaa
open Go.RowKit Go.SL Go.ShM
set_option maxHeartbeats 1000000
set_option maxRecDepth 20000
set_option linter.all false
theorem cf70 : cfn Try.prog 70 = true := by kernel_rfl
theorem cf71 : cfn Try.prog 71 = true := by kernel_rfl
theorem mixR_ct {hs : List B32} {bs : List B8} (hh : hs.length = 8 := by first | with_reducible assumption | omega) (hb : bs.length = 64 := by first | with_reducible assumption | omega) : Ct Try.prog 41 [aU .u32 hs, aU .u8 bs] [] (fun _ : Unit => aU .u32 (mixM hs bs)) (fun _ => []) := by
  refine Ct_body (n := 114) Try.func41 rfl rfl rfl fun F w0 Q hret hnorm hp => ?_
  change WC _ _ _ _ _ _ _ (F)
  have hsl := schM_len bs
  have hkl := kM_len
  refine WC_sr fun K1 hK1 => ?_
  refine WL_ac (Ac_boxW (k := .u32) rfl) rfl rfl rfl ?_
  rintro _ _ ⟨b2, rfl, rfl⟩
  refine WL_ac (Ac_boxW (k := .u8) rfl) rfl rfl rfl ?_
  rintro _ _ ⟨b3, rfl, rfl⟩
  refine WL_ac (Ac_allocW (k := .u32) (w := 32) (m := 8) zr78) rfl rfl rfl ?_
  rintro _ _ ⟨b4, rfl, rfl⟩
  refine WL_end hK1 ?_
  refine WC_sr fun K2 hK2 => ?_
  refine WL_rd (Rd_loadW rfl tk80) rfl rfl rfl ?_
  refine WL_ac (Ac_call cf70 rfl (hs := wrd_ct)) rfl rfl rfl ?_
  rintro _ _ ⟨⟨⟩, rfl, hA⟩
  simp only [List.cons_append, List.nil_append] at hA
  replace hA := hA.symm
  subst hA
  refine WL_ac (Ac_allocW (k := .u32) (w := 32) (m := 64) zr103) rfl rfl rfl ?_
  rintro _ _ ⟨b5, rfl, rfl⟩
  refine WL_ac0 (Ac_storeW rfl rfl sz103) rfl rfl ?_
  rintro _ _ rfl
  refine WL_end hK2 ?_
  refine WC_sr fun K3 hK3 => ?_
  refine WL_ac (Ac_call cf71 rfl (hs := constR_ct)) rfl rfl rfl ?_
  rintro _ _ ⟨⟨⟩, rfl, hA⟩
  simp only [List.cons_append, List.nil_append] at hA
  replace hA := hA.symm
  subst hA
  refine WL_ac (Ac_allocW (k := .u32) (w := 32) (m := 64) zr103) rfl rfl rfl ?_
  rintro _ _ ⟨b6, rfl, rfl⟩
  refine WL_ac0 (Ac_storeW rfl rfl sz103) rfl rfl ?_
  rintro _ _ rfl
  refine WL_end hK3 ?_
  refine WC_sr fun K4 hK4 => ?_
  refine WL_rd (Rd_loadW rfl tk78) rfl rfl rfl ?_
  refine WL_ac (Ac_allocW (k := .u32) (w := 32) (m := 8) zr78) rfl rfl rfl ?_
  rintro _ _ ⟨b7, rfl, rfl⟩
  refine WL_ac0 (Ac_storeW rfl rfl sz78) rfl rfl ?_
  rintro _ _ rfl
  rw [show arr (some b7) 8 1 78 (eU .u32) hs = arr (some b7) 8 1 78 (eU .u32) (rndI hs (schM bs) 0) from rfl]
  refine WL_end hK4 ?_
  refine WC_seq fun K5 hK5 => ?_
  refine WC_sr fun K6 hK6 => ?_
  refine WL_rd (Rd_assign rfl) rfl rfl rfl ?_
  refine WL_end hK6 ?_
  refine WC_block ?_
  refine WC_loop (σ := Nat) (fun i' => [(2, .pointer (some ⟨b2, 0, none⟩)), (3, .pointer (some ⟨b3, 0, none⟩)), (4, .pointer (some ⟨b4, 0, none⟩)), (5, .pointer (some ⟨b5, 0, none⟩)), (6, .pointer (some ⟨b6, 0, none⟩)), (7, .pointer (some ⟨b7, 0, none⟩)), (8, .int .i64 ((i' : Nat) : Int))]) (fun i' => arr (some b2) hs.length 1 78 (eU .u32) hs :: arr (some b4) 8 1 78 (eU .u32) (List.replicate 8 0#32) :: arr (some b5) 64 1 103 (eU .u32) (schM bs) :: arr (some b6) 64 1 103 (eU .u32) kM :: arr (some b7) 8 1 78 (eU .u32) (rndI hs (schM bs) i') :: F) (fun i' => i' ≤ 64) (fun i' => 64 - i') (0) ?_ ?_ ?_ ?_
  · omega
  · exact (Wk.cons (by first | rfl | (simp only [List.length_append, List.length_cons, List.length_nil, List.length_replicate, Nat.zero_add]; rfl) | (simp; done)) (Wk.cons (by first | rfl | (simp only [List.length_append, List.length_cons, List.length_nil, List.length_replicate, Nat.zero_add]; rfl) | (simp; done)) (Wk.cons (by first | rfl | (simp only [List.length_append, List.length_cons, List.length_nil, List.length_replicate, Nat.zero_add]; rfl) | (simp; done)) (Wk.cons (by first | rfl | (simp only [List.length_append, List.length_cons, List.length_nil, List.length_replicate, Nat.zero_add]; rfl) | (simp; done)) (Wk.cons (by first | rfl | (simp only [List.length_append, List.length_cons, List.length_nil, List.length_replicate, Nat.zero_add]; rfl) | (simp; done)) (Wk.cons (by first | rfl | (simp only [List.length_append, List.length_cons, List.length_nil, List.length_replicate, Nat.zero_add]; rfl) | (simp; done)) (Wk.cons (by first | rfl | (simp only [List.length_append, List.length_cons, List.length_nil, List.length_replicate, Nat.zero_add]; rfl) | (simp; done)) Wk.nil)))))))
  · repeat (first | with_reducible exact Sub.refl | with_reducible exact Sub.nil | with_reducible refine Sub.cons (by repeat (first | with_reducible exact Ext.here | with_reducible apply Ext.there)) ?_ | with_reducible refine Sub.tail ?_)
  · rintro i' hi K7 hK7
    have hrl := rndI_len (ws := schM bs) hh i'
    have hrl2 := rndI_len (ws := schM bs) hh (i' + 1)
    refine WC_seq fun K8 hK8 => ?_
    refine WC_sr fun K9 hK9 => ?_
    refine WL_rd (Rd_move rfl) rfl rfl rfl ?_
    refine WL_rd (Rd_lssN (j := 64) rfl rfl) rfl rfl rfl ?_
    refine WL_end hK9 ?_
    refine WC_cond rfl (fun hc0 => ?_) (fun hc0 => ?_)
    · try simp only [decide_eq_true_eq, decide_eq_false_iff_not, Bool.not_eq_true', Bool.not_eq_false', Bool.not_eq_true, Bool.not_eq_false, Int.not_lt, Int.not_le, Nat.not_lt, Nat.not_le, Decidable.not_not, ne_eq] at hc0
      refine WC_skip ?_
      refine Ps_next hK8 ?_
      refine WC_seq fun K10 hK10 => ?_
      refine WC_block ?_
      refine WC_sr fun K11 hK11 => ?_
      refine WL_rd (Rd_ixA 4 rfl rfl ud78 sz44) rfl rfl rfl ?_
      refine WL_rd (Rd_loadU rfl tk44) rfl rfl rfl ?_
      refine WL_rd (Rd_assign rfl) rfl rfl rfl ?_
      refine WL_end hK11 ?_
      refine WC_sr fun K12 hK12 => ?_
      refine WL_rd (Rd_ixA 0 rfl rfl ud78 sz44) rfl rfl rfl ?_
      refine WL_rd (Rd_loadU rfl tk44) rfl rfl rfl ?_
      refine WL_rd (Rd_assign rfl) rfl rfl rfl ?_
      refine WL_end hK12 ?_
      refine WC_seq fun K13 hK13 => ?_
      refine WC_drawA mix (fun i => ([2, 2, 2, 1, 2, 1, 2, 2, 1, 2, 2, 2, 2, 2, 2, 2, 2, 2, 2, 2, 2, 2, 2, 2, 2, 2, 2, 2, 2, 2, 2] : List Nat).getD i 0) ?_
      refine WJ_takeP 0 rfl (by kernel_rfl) (Rd_ixA 7 rfl rfl ud78 sz44) rfl rfl rfl (hp _ _) ?_
      refine WJ_tk 1 (Rd_loadU rfl tk44) hp ?_ rfl (by kernel_rfl) rfl rfl rfl
      refine WJ_takeP 2 rfl (by kernel_rfl) (Rd_move rfl) rfl rfl rfl (hp _ _) ?_
      refine WJ_takeP 4 rfl (by kernel_rfl) (Rd_move rfl) rfl rfl rfl (hp _ _) ?_
      refine WJ_takeP 7 rfl (by kernel_rfl) (Rd_move rfl) rfl rfl rfl (hp _ _) ?_
      refine WJ_takeP 11 rfl (by kernel_rfl) (Rd_move rfl) rfl rfl rfl (hp _ _) ?_
      refine WJ_takeP 12 rfl (by kernel_rfl) (Rd_ixA 5 rfl rfl ud78 sz44) rfl rfl rfl (hp _ _) ?_
      refine WJ_tk 13 (Rd_loadU rfl tk44) hp ?_ rfl (by kernel_rfl) rfl rfl rfl
      refine WJ_takeP 14 rfl (by kernel_rfl) (Rd_andU rfl rfl) rfl rfl rfl (hp _ _) ?_
      refine WJ_takeP 15 rfl (by kernel_rfl) (Rd_move rfl) rfl rfl rfl (hp _ _) ?_
      refine WJ_takeP 16 rfl (by kernel_rfl) (Rd_xorU (a := 4294967295#32) rfl rfl) rfl rfl rfl (hp _ _) ?_
      refine WJ_takeP 17 rfl (by kernel_rfl) (Rd_ixA 6 rfl rfl ud78 sz44) rfl rfl rfl (hp _ _) ?_
      refine WJ_tk 18 (Rd_loadU rfl tk44) hp ?_ rfl (by kernel_rfl) rfl rfl rfl
      refine WJ_takeP 19 rfl (by kernel_rfl) (Rd_andU rfl rfl) rfl rfl rfl (hp _ _) ?_
      refine WJ_takeP 20 rfl (by kernel_rfl) (Rd_xorU rfl rfl) rfl rfl rfl (hp _ _) ?_
      refine WJ_takeP 22 rfl (by kernel_rfl) (Rd_move rfl) rfl rfl rfl (hp _ _) ?_
      refine WJ_takeP 23 rfl (by kernel_rfl) (Rd_ixA _ rfl rfl ud103 sz44) rfl rfl rfl (hp _ _) ?_
      refine WJ_tk 24 (Rd_loadU rfl tk44) hp ?_ rfl (by kernel_rfl) rfl rfl rfl
      refine WJ_takeP 26 rfl (by kernel_rfl) (Rd_move rfl) rfl rfl rfl (hp _ _) ?_
      refine WJ_takeP 27 rfl (by kernel_rfl) (Rd_ixA _ rfl rfl ud103 sz44) rfl rfl rfl (hp _ _) ?_
      refine WJ_tk 28 (Rd_loadU rfl tk44) hp ?_ rfl (by kernel_rfl) rfl rfl rfl
      refine WJ_all (rs := [3]) (by kernel_rfl) rfl ?_
      refine WI_one ?_
      refine WI_ac rfl (Ac_call cf72 rfl (hs := turn_ct (n := 6#64) (k := -6) (hk := turn6))) rfl rfl rfl rfl ?_
      rintro _ _ ⟨⟨⟩, rfl, hA⟩
      simp only [List.cons_append, List.nil_append] at hA
      replace hA := hA.symm
      subst hA
      refine ⟨(fun _ => (by repeat (first | with_reducible exact Sub.refl | with_reducible exact Sub.nil | with_reducible refine Sub.cons (by repeat (first | with_reducible exact Ext.here | with_reducible apply Ext.there)) ?_ | with_reducible refine Sub.tail ?_))), ?_⟩
      refine WJ_all (rs := [5]) (by kernel_rfl) rfl ?_
      refine WI_one ?_
      refine WI_ac rfl (Ac_call cf72 rfl (hs := turn_ct (n := 11#64) (k := -11) (hk := turn11))) rfl rfl rfl rfl ?_
      rintro _ _ ⟨⟨⟩, rfl, hA⟩
      simp only [List.cons_append, List.nil_append] at hA
      replace hA := hA.symm
      subst hA
      refine ⟨(fun _ => (by repeat (first | with_reducible exact Sub.refl | with_reducible exact Sub.nil | with_reducible refine Sub.cons (by repeat (first | with_reducible exact Ext.here | with_reducible apply Ext.there)) ?_ | with_reducible refine Sub.tail ?_))), ?_⟩
      refine WJ_takeP 6 rfl (by kernel_rfl) (Rd_xorU rfl rfl) rfl rfl rfl (hp _ _) ?_
      refine WJ_all (rs := [8]) (by kernel_rfl) rfl ?_
      refine WI_one ?_
      refine WI_ac rfl (Ac_call cf72 rfl (hs := turn_ct (n := 25#64) (k := -25) (hk := turn25))) rfl rfl rfl rfl ?_
      rintro _ _ ⟨⟨⟩, rfl, hA⟩
      simp only [List.cons_append, List.nil_append] at hA
      replace hA := hA.symm
      subst hA
      refine ⟨(fun _ => (by repeat (first | with_reducible exact Sub.refl | with_reducible exact Sub.nil | with_reducible refine Sub.cons (by repeat (first | with_reducible exact Ext.here | with_reducible apply Ext.there)) ?_ | with_reducible refine Sub.tail ?_))), ?_⟩
      refine WJ_takeP 9 rfl (by kernel_rfl) (Rd_xorU rfl rfl) rfl rfl rfl (hp _ _) ?_
      refine WJ_takeP 10 rfl (by kernel_rfl) (Rd_addU rfl rfl) rfl rfl rfl (hp _ _) ?_
      refine WJ_takeP 21 rfl (by kernel_rfl) (Rd_addU rfl rfl) rfl rfl rfl (hp _ _) ?_
      refine WJ_takeP 25 rfl (by kernel_rfl) (Rd_addU rfl rfl) rfl rfl rfl (hp _ _) ?_
      refine WJ_takeP 29 rfl (by kernel_rfl) (Rd_addU rfl rfl) rfl rfl rfl (hp _ _) ?_
      refine WJ_takeP 30 rfl (by kernel_rfl) (Rd_assign rfl) rfl rfl rfl (hp _ _) ?_
      refine WJ_done (by kernel_rfl) ?_
      refine Ps_next hK13 ?_
      refine WC_seq fun K14 hK14 => ?_
      refine WC_drawA mix (fun i => ([2, 1, 2, 1, 2, 2, 1, 2, 2, 2, 2, 2, 2, 2, 2, 2, 2, 2, 2, 2, 2, 2, 2, 2, 2] : List Nat).getD i 0) ?_
      refine WJ_takeP 0 rfl (by kernel_rfl) (Rd_move rfl) rfl rfl rfl (hp _ _) ?_
      refine WJ_takeP 2 rfl (by kernel_rfl) (Rd_move rfl) rfl rfl rfl (hp _ _) ?_
      refine WJ_takeP 5 rfl (by kernel_rfl) (Rd_move rfl) rfl rfl rfl (hp _ _) ?_
      refine WJ_takeP 8 rfl (by kernel_rfl) (Rd_move rfl) rfl rfl rfl (hp _ _) ?_
      refine WJ_takeP 9 rfl (by kernel_rfl) (Rd_ixA 1 rfl rfl ud78 sz44) rfl rfl rfl (hp _ _) ?_
      refine WJ_tk 10 (Rd_loadU rfl tk44) hp ?_ rfl (by kernel_rfl) rfl rfl rfl
      refine WJ_takeP 11 rfl (by kernel_rfl) (Rd_andU rfl rfl) rfl rfl rfl (hp _ _) ?_
      refine WJ_takeP 12 rfl (by kernel_rfl) (Rd_move rfl) rfl rfl rfl (hp _ _) ?_
      refine WJ_takeP 13 rfl (by kernel_rfl) (Rd_ixA 2 rfl rfl ud78 sz44) rfl rfl rfl (hp _ _) ?_
      refine WJ_tk 14 (Rd_loadU rfl tk44) hp ?_ rfl (by kernel_rfl) rfl rfl rfl
      refine WJ_takeP 15 rfl (by kernel_rfl) (Rd_andU rfl rfl) rfl rfl rfl (hp _ _) ?_
      refine WJ_takeP 16 rfl (by kernel_rfl) (Rd_xorU rfl rfl) rfl rfl rfl (hp _ _) ?_
      refine WJ_takeP 17 rfl (by kernel_rfl) (Rd_ixA 1 rfl rfl ud78 sz44) rfl rfl rfl (hp _ _) ?_
      refine WJ_tk 18 (Rd_loadU rfl tk44) hp ?_ rfl (by kernel_rfl) rfl rfl rfl
      refine WJ_takeP 19 rfl (by kernel_rfl) (Rd_ixA 2 rfl rfl ud78 sz44) rfl rfl rfl (hp _ _) ?_
      refine WJ_tk 20 (Rd_loadU rfl tk44) hp ?_ rfl (by kernel_rfl) rfl rfl rfl
      refine WJ_takeP 21 rfl (by kernel_rfl) (Rd_andU rfl rfl) rfl rfl rfl (hp _ _) ?_
      refine WJ_takeP 22 rfl (by kernel_rfl) (Rd_xorU rfl rfl) rfl rfl rfl (hp _ _) ?_
      refine WJ_all (rs := [1]) (by kernel_rfl) rfl ?_
      refine WI_one ?_
      refine WI_ac rfl (Ac_call cf72 rfl (hs := turn_ct (n := 2#64) (k := -2) (hk := turn2))) rfl rfl rfl rfl ?_
      rintro _ _ ⟨⟨⟩, rfl, hA⟩
      simp only [List.cons_append, List.nil_append] at hA
      replace hA := hA.symm
      subst hA
      refine ⟨(fun _ => (by repeat (first | with_reducible exact Sub.refl | with_reducible exact Sub.nil | with_reducible refine Sub.cons (by repeat (first | with_reducible exact Ext.here | with_reducible apply Ext.there)) ?_ | with_reducible refine Sub.tail ?_))), ?_⟩
      refine WJ_all (rs := [3]) (by kernel_rfl) rfl ?_
      refine WI_one ?_
      refine WI_ac rfl (Ac_call cf72 rfl (hs := turn_ct (n := 13#64) (k := -13) (hk := turn13))) rfl rfl rfl rfl ?_
      rintro _ _ ⟨⟨⟩, rfl, hA⟩
      simp only [List.cons_append, List.nil_append] at hA
      replace hA := hA.symm
      subst hA
      refine ⟨(fun _ => (by repeat (first | with_reducible exact Sub.refl | with_reducible exact Sub.nil | with_reducible refine Sub.cons (by repeat (first | with_reducible exact Ext.here | with_reducible apply Ext.there)) ?_ | with_reducible refine Sub.tail ?_))), ?_⟩
      refine WJ_takeP 4 rfl (by kernel_rfl) (Rd_xorU rfl rfl) rfl rfl rfl (hp _ _) ?_
      refine WJ_all (rs := [6]) (by kernel_rfl) rfl ?_
      refine WI_one ?_
      refine WI_ac rfl (Ac_call cf72 rfl (hs := turn_ct (n := 22#64) (k := -22) (hk := turn22))) rfl rfl rfl rfl ?_
      rintro _ _ ⟨⟨⟩, rfl, hA⟩
      simp only [List.cons_append, List.nil_append] at hA
      replace hA := hA.symm
      subst hA
      refine ⟨(fun _ => (by repeat (first | with_reducible exact Sub.refl | with_reducible exact Sub.nil | with_reducible refine Sub.cons (by repeat (first | with_reducible exact Ext.here | with_reducible apply Ext.there)) ?_ | with_reducible refine Sub.tail ?_))), ?_⟩
      refine WJ_takeP 7 rfl (by kernel_rfl) (Rd_xorU rfl rfl) rfl rfl rfl (hp _ _) ?_
      refine WJ_takeP 23 rfl (by kernel_rfl) (Rd_addU rfl rfl) rfl rfl rfl (hp _ _) ?_
      refine WJ_takeP 24 rfl (by kernel_rfl) (Rd_assign rfl) rfl rfl rfl (hp _ _) ?_
      refine WJ_done (by kernel_rfl) ?_
      refine Ps_next hK14 ?_
      refine WC_region ?_
      refine WL_rd (Rd_move rfl) rfl rfl rfl ?_
      refine WL_rd (Rd_move rfl) rfl rfl rfl ?_
      refine WL_rd (Rd_addU rfl rfl) rfl rfl rfl ?_
      refine WL_rd (Rd_ixA 0 rfl rfl ud78 sz44) rfl rfl rfl ?_
      refine WL_rd (Rd_loadU rfl tk44) rfl rfl rfl ?_
      refine WL_rd (Rd_ixA 1 rfl rfl ud78 sz44) rfl rfl rfl ?_
      refine WL_rd (Rd_loadU rfl tk44) rfl rfl rfl ?_
      refine WL_rd (Rd_ixA 2 rfl rfl ud78 sz44) rfl rfl rfl ?_
      refine WL_rd (Rd_loadU rfl tk44) rfl rfl rfl ?_
      refine WL_rd (Rd_ixA 3 rfl rfl ud78 sz44) rfl rfl rfl ?_
      refine WL_rd (Rd_loadU rfl tk44) rfl rfl rfl ?_
      refine WL_rd (Rd_move rfl) rfl rfl rfl ?_
      refine WL_rd (Rd_addU rfl rfl) rfl rfl rfl ?_
      refine WL_rd (Rd_ixA 4 rfl rfl ud78 sz44) rfl rfl rfl ?_
      refine WL_rd (Rd_loadU rfl tk44) rfl rfl rfl ?_
      refine WL_rd (Rd_ixA 5 rfl rfl ud78 sz44) rfl rfl rfl ?_
      refine WL_rd (Rd_loadU rfl tk44) rfl rfl rfl ?_
      refine WL_rd (Rd_ixA 6 rfl rfl ud78 sz44) rfl rfl rfl ?_
      refine WL_rd (Rd_loadU rfl tk44) rfl rfl rfl ?_
      refine WL_rd (Rd_aU (k := .u32) (l := (roundR (rndI hs (schM bs) i') (kM.getD i' 0#32) ((schM bs).getD i' 0#32))) (Rd_build pls78 rfl) (by rfl)) rfl rfl rfl ?_
      rw [roundR_eq, ← rndI_succ]
      refine WL_ac0 (Ac_storeW rfl rfl sz78) rfl rfl ?_
      rintro _ _ rfl
      refine WL_nil ?_
      refine Ps_next hK10 ?_
      refine WC_region ?_
      refine WL_rd (Rd_move rfl) rfl rfl rfl ?_
      refine WL_rd (Rd_addN (j := 1) rfl rfl) rfl rfl rfl ?_
      refine WL_rd (Rd_assign rfl) rfl rfl rfl ?_
      refine WL_nil ?_
      refine Ps_wk ((Wk.cons (by first | rfl | (simp only [List.length_append, List.length_cons, List.length_nil, List.length_replicate, Nat.zero_add]; rfl) | (simp; done)) (Wk.cons (by first | rfl | (simp only [List.length_append, List.length_cons, List.length_nil, List.length_replicate, Nat.zero_add]; rfl) | (simp; done)) (Wk.cons (by first | rfl | (simp only [List.length_append, List.length_cons, List.length_nil, List.length_replicate, Nat.zero_add]; rfl) | (simp; done)) (Wk.cons (by first | rfl | (simp only [List.length_append, List.length_cons, List.length_nil, List.length_replicate, Nat.zero_add]; rfl) | (simp; done)) (Wk.cons (by first | rfl | (simp only [List.length_append, List.length_cons, List.length_nil, List.length_replicate, Nat.zero_add]; rfl) | (simp; done)) (Wk.cons (by first | rfl | (simp only [List.length_append, List.length_cons, List.length_nil, List.length_replicate, Nat.zero_add]; rfl) | (simp; done)) (Wk.cons (by first | rfl | (simp only [List.length_append, List.length_cons, List.length_nil, List.length_replicate, Nat.zero_add]; rfl) | (simp; done)) Wk.nil)))))))) (by first | with_reducible exact Sub.refl | ((try dsimp only); repeat (first | with_reducible exact Sub.refl | with_reducible exact Sub.nil | with_reducible refine Sub.cons (by repeat (first | with_reducible exact Ext.here | with_reducible apply Ext.there)) ?_ | with_reducible refine Sub.tail ?_))) (hK7 (i' + 1) (by omega) (by omega))
    · try simp only [decide_eq_true_eq, decide_eq_false_iff_not, Bool.not_eq_true', Bool.not_eq_false', Bool.not_eq_true, Bool.not_eq_false, Int.not_lt, Int.not_le, Nat.not_lt, Nat.not_le, Decidable.not_not, ne_eq] at hc0
      obtain rfl : i' = 64 := by omega
      rw [show arr (some b2) hs.length 1 78 (eU .u32) hs = arr (some b2) hs.length 1 78 (eU .u32) (addI hs (rndI hs (schM bs) 64) 0) from rfl]
      refine WC_exit ?_
      refine Ps_next hK5 ?_
      refine WC_seq fun K15 hK15 => ?_
      refine WC_sr fun K16 hK16 => ?_
      refine WL_rd (Rd_assign rfl) rfl rfl rfl ?_
      refine WL_end hK16 ?_
      refine WC_block ?_
      refine WC_loop (σ := Nat) (fun i2 => [(2, .pointer (some ⟨b2, 0, none⟩)), (3, .pointer (some ⟨b3, 0, none⟩)), (4, .pointer (some ⟨b4, 0, none⟩)), (5, .pointer (some ⟨b5, 0, none⟩)), (6, .pointer (some ⟨b6, 0, none⟩)), (7, .pointer (some ⟨b7, 0, none⟩)), (13, .int .i64 ((i2 : Nat) : Int))]) (fun i2 => arr (some b2) hs.length 1 78 (eU .u32) (addI hs (rndI hs (schM bs) 64) i2) :: arr (some b4) 8 1 78 (eU .u32) (List.replicate 8 0#32) :: arr (some b7) 8 1 78 (eU .u32) (rndI hs (schM bs) 64) :: F) (fun i2 => i2 ≤ 8) (fun i2 => 8 - i2) (0) ?_ ?_ ?_ ?_
      · omega
      · exact (Wk.cons (by first | rfl | (simp only [List.length_append, List.length_cons, List.length_nil, List.length_replicate, Nat.zero_add]; rfl) | (simp; done)) (Wk.cons (by first | rfl | (simp only [List.length_append, List.length_cons, List.length_nil, List.length_replicate, Nat.zero_add]; rfl) | (simp; done)) (Wk.cons (by first | rfl | (simp only [List.length_append, List.length_cons, List.length_nil, List.length_replicate, Nat.zero_add]; rfl) | (simp; done)) (Wk.cons (by first | rfl | (simp only [List.length_append, List.length_cons, List.length_nil, List.length_replicate, Nat.zero_add]; rfl) | (simp; done)) (Wk.cons (by first | rfl | (simp only [List.length_append, List.length_cons, List.length_nil, List.length_replicate, Nat.zero_add]; rfl) | (simp; done)) (Wk.cons (by first | rfl | (simp only [List.length_append, List.length_cons, List.length_nil, List.length_replicate, Nat.zero_add]; rfl) | (simp; done)) (Wk.cons (by first | rfl | (simp only [List.length_append, List.length_cons, List.length_nil, List.length_replicate, Nat.zero_add]; rfl) | (simp; done)) Wk.nil)))))))
      · repeat (first | with_reducible exact Sub.refl | with_reducible exact Sub.nil | with_reducible refine Sub.cons (by repeat (first | with_reducible exact Ext.here | with_reducible apply Ext.there)) ?_ | with_reducible refine Sub.tail ?_)
      · rintro i2 hj K17 hK17
        have hal := addI_len (xs := rndI hs (schM bs) 64) hh i2
        refine WC_seq fun K18 hK18 => ?_
        refine WC_sr fun K19 hK19 => ?_
        refine WL_rd (Rd_move rfl) rfl rfl rfl ?_
        refine WL_rd (Rd_lssN (j := 8) rfl rfl) rfl rfl rfl ?_
        refine WL_end hK19 ?_
        refine WC_cond rfl (fun hc1 => ?_) (fun hc1 => ?_)
        · try simp only [decide_eq_true_eq, decide_eq_false_iff_not, Bool.not_eq_true', Bool.not_eq_false', Bool.not_eq_true, Bool.not_eq_false, Int.not_lt, Int.not_le, Nat.not_lt, Nat.not_le, Decidable.not_not, ne_eq] at hc1
          refine WC_skip ?_
          refine Ps_next hK18 ?_
          refine WC_seq fun K20 hK20 => ?_
          refine WC_block ?_
          refine WC_drawA mix (fun i => ([2, 2, 2, 2, 2, 2, 2, 2, 2, 0] : List Nat).getD i 0) ?_
          refine WJ_takeP 0 rfl (by kernel_rfl) (Rd_move rfl) rfl rfl rfl (hp _ _) ?_
          refine WJ_takeP 1 rfl (by kernel_rfl) (Rd_move rfl) rfl rfl rfl (hp _ _) ?_
          refine WJ_takeP 2 rfl (by kernel_rfl) (Rd_ixA _ rfl rfl ud78 sz44) rfl rfl rfl (hp _ _) ?_
          refine WJ_tk 3 (Rd_loadU rfl tk44) hp ?_ rfl (by kernel_rfl) rfl rfl rfl
          refine WJ_takeP 4 rfl (by kernel_rfl) (Rd_move rfl) rfl rfl rfl (hp _ _) ?_
          refine WJ_takeP 5 rfl (by kernel_rfl) (Rd_ixA _ rfl rfl ud78 sz44) rfl rfl rfl (hp _ _) ?_
          refine WJ_tk 6 (Rd_loadU rfl tk44) hp ?_ rfl (by kernel_rfl) rfl rfl rfl
          refine WJ_takeP 7 rfl (by kernel_rfl) (Rd_addU rfl rfl) rfl rfl rfl (hp _ _) ?_
          refine WJ_takeP 8 rfl (by kernel_rfl) (Rd_ixA _ rfl rfl ud78 sz44) rfl rfl rfl (hp _ _) ?_
          refine WJ_all (rs := [9]) (by kernel_rfl) rfl ?_
          refine WI_one ?_
          refine WI_ac0 rfl (Ac_storeU rfl rfl sz44) rfl rfl rfl ?_
          rintro _ _ rfl
          refine ⟨(fun h => by cases h), ?_⟩
          rw [← addI_succ]
          refine WJ_done (by kernel_rfl) ?_
          refine Ps_next hK20 ?_
          refine WC_region ?_
          refine WL_rd (Rd_move rfl) rfl rfl rfl ?_
          refine WL_rd (Rd_addN (j := 1) rfl rfl) rfl rfl rfl ?_
          refine WL_rd (Rd_assign rfl) rfl rfl rfl ?_
          refine WL_nil ?_
          refine Ps_wk ((Wk.cons (by first | rfl | (simp only [List.length_append, List.length_cons, List.length_nil, List.length_replicate, Nat.zero_add]; rfl) | (simp; done)) (Wk.cons (by first | rfl | (simp only [List.length_append, List.length_cons, List.length_nil, List.length_replicate, Nat.zero_add]; rfl) | (simp; done)) (Wk.cons (by first | rfl | (simp only [List.length_append, List.length_cons, List.length_nil, List.length_replicate, Nat.zero_add]; rfl) | (simp; done)) (Wk.cons (by first | rfl | (simp only [List.length_append, List.length_cons, List.length_nil, List.length_replicate, Nat.zero_add]; rfl) | (simp; done)) (Wk.cons (by first | rfl | (simp only [List.length_append, List.length_cons, List.length_nil, List.length_replicate, Nat.zero_add]; rfl) | (simp; done)) (Wk.cons (by first | rfl | (simp only [List.length_append, List.length_cons, List.length_nil, List.length_replicate, Nat.zero_add]; rfl) | (simp; done)) (Wk.cons (by first | rfl | (simp only [List.length_append, List.length_cons, List.length_nil, List.length_replicate, Nat.zero_add]; rfl) | (simp; done)) Wk.nil)))))))) (by first | with_reducible exact Sub.refl | ((try dsimp only); repeat (first | with_reducible exact Sub.refl | with_reducible exact Sub.nil | with_reducible refine Sub.cons (by repeat (first | with_reducible exact Ext.here | with_reducible apply Ext.there)) ?_ | with_reducible refine Sub.tail ?_))) (hK17 (i2 + 1) (by omega) (by omega))
        · try simp only [decide_eq_true_eq, decide_eq_false_iff_not, Bool.not_eq_true', Bool.not_eq_false', Bool.not_eq_true, Bool.not_eq_false, Int.not_lt, Int.not_le, Nat.not_lt, Nat.not_le, Decidable.not_not, ne_eq] at hc1
          obtain rfl : i2 = 8 := by omega
          rw [show mixM hs bs = addI hs (rndI hs (schM bs) 64) 8 from rfl] at hret
          refine WC_exit ?_
          refine Ps_next hK15 ?_
          refine WC_sr fun K21 hK21 => ?_
          refine WL_rd (Rd_loadW rfl tk78) rfl rfl rfl ?_
          refine WL_ac0 (Ac_storeW rfl rfl sz78) rfl rfl ?_
          rintro _ _ rfl
          refine WL_end hK21 ?_
          refine WC_ret ?_
          exact hret.go () (Rs1W rfl rfl tk78)
end Go.Proofs.Ytlcafifjhilleaa
namespace Go.Proofs.Ytlcafifjhilleaa
open Go.RowKit Go.SL Go.ShM
set_option maxHeartbeats 1000000
set_option maxRecDepth 20000
set_option linter.all false
theorem cf69 : cfn Try.prog 69 = true := by kernel_rfl
theorem cf76 : cfn Try.prog 76 = true := by kernel_rfl
theorem el5 : el Try.prog 5 = some (1, 1) := by kernel_rfl
theorem ikd3_44 : ikd Try.prog 3 44 = some .u32 := by kernel_rfl
theorem ikd3_58 : ikd Try.prog 3 58 = some .u64 := by kernel_rfl
theorem ikd44_58 : ikd Try.prog 44 58 = some .u64 := by kernel_rfl
theorem ikd58_5 : ikd Try.prog 58 5 = some .u8 := by kernel_rfl
theorem ikd58_44 : ikd Try.prog 58 44 = some .u32 := by kernel_rfl
theorem ud23 : Try.prog.underlying 23 = some (.slice 5) := by kernel_rfl
theorem zr5 : zr Try.prog 5 = some [.int .u8 0] := by kernel_rfl
theorem widthu64_ct   : Ct Try.prog 76 [] [] (fun _ : Unit => .int .i64 ((8 : Nat) : Int)) (fun _ => []) := by
  refine Ct_body (n := 12) Try.func76 rfl rfl rfl fun F w0 Q hret hnorm hp => ?_
  change WC _ _ _ _ _ _ _ (F)
  refine WC_sr fun K1 hK1 => ?_
  refine WL_rd (Rd_assign rfl) rfl rfl rfl ?_
  refine WL_end hK1 ?_
  refine WC_sr fun K2 hK2 => ?_
  refine WL_rd (Rd_assign rfl) rfl rfl rfl ?_
  refine WL_end hK2 ?_
  refine WC_seq fun K3 hK3 => ?_
  refine WC_sr fun K4 hK4 => ?_
  refine WL_rd (Rd_convNU (i := 0) rfl ikd3_58 (h' := uk64)) rfl rfl rfl ?_
  refine WL_rd (Rd_notU rfl) rfl rfl rfl ?_
  refine WL_rd (Rd_assign rfl) rfl rfl rfl ?_
  refine WL_end hK4 ?_
  refine WC_block ?_
  refine WC_loop (σ := Nat) (fun i' => [(1, .int .i64 ((i' : Nat) : Int)), (2, .int .u64 (((w64 i').toNat : Nat) : Int))]) (fun i' => F) (fun i' => i' ≤ 8) (fun i' => 8 - i') (0) ?_ ?_ ?_ ?_
  · omega
  · exact (Wk.cons (by first | rfl | (simp only [List.length_append, List.length_cons, List.length_nil, List.length_replicate, Nat.zero_add]; rfl) | (simp; done)) (Wk.cons (by first | rfl | (simp only [List.length_append, List.length_cons, List.length_nil, List.length_replicate, Nat.zero_add]; rfl) | (simp; done)) Wk.nil))
  · repeat (first | with_reducible exact Sub.refl | with_reducible exact Sub.nil | with_reducible refine Sub.cons (by repeat (first | with_reducible exact Ext.here | with_reducible apply Ext.there)) ?_ | with_reducible refine Sub.tail ?_)
  · rintro i' hi K5 hK5
    have hz := w64_nz i' hi
    refine WC_seq fun K6 hK6 => ?_
    refine WC_sr fun K7 hK7 => ?_
    refine WL_rd (Rd_move rfl) rfl rfl rfl ?_
    refine WL_rd (Rd_neqU (b := 0#64) rfl rfl) rfl rfl rfl ?_
    refine WL_end hK7 ?_
    refine WC_cond rfl (fun hc0 => ?_) (fun hc0 => ?_)
    · try simp only [decide_eq_true_eq, decide_eq_false_iff_not, Bool.not_eq_true', Bool.not_eq_false', Bool.not_eq_true, Bool.not_eq_false, Int.not_lt, Int.not_le, Nat.not_lt, Nat.not_le, Decidable.not_not, ne_eq] at hc0
      refine WC_skip ?_
      refine Ps_next hK6 ?_
      refine WC_seq fun K8 hK8 => ?_
      refine WC_block ?_
      refine WC_region ?_
      refine WL_rd (Rd_move rfl) rfl rfl rfl ?_
      refine WL_rd (Rd_addN (j := 1) rfl rfl) rfl rfl rfl ?_
      refine WL_rd (Rd_assign rfl) rfl rfl rfl ?_
      refine WL_nil ?_
      refine Ps_next hK8 ?_
      refine WC_region ?_
      refine WL_rd (Rd_move rfl) rfl rfl rfl ?_
      refine WL_rd (Rd_shrU (j := 8) rfl rfl) rfl rfl rfl ?_
      refine WL_rd (Rd_assign rfl) rfl rfl rfl ?_
      refine WL_nil ?_
      refine Ps_wk ((Wk.cons (by first | rfl | (simp only [List.length_append, List.length_cons, List.length_nil, List.length_replicate, Nat.zero_add]; rfl) | (simp; done)) (Wk.cons (by first | rfl | (simp only [List.length_append, List.length_cons, List.length_nil, List.length_replicate, Nat.zero_add]; rfl) | (simp; done)) Wk.nil))) (by first | with_reducible exact Sub.refl | ((try dsimp only); repeat (first | with_reducible exact Sub.refl | with_reducible exact Sub.nil | with_reducible refine Sub.cons (by repeat (first | with_reducible exact Ext.here | with_reducible apply Ext.there)) ?_ | with_reducible refine Sub.tail ?_))) (hK5 (i' + 1) (by have := hz.1 hc0; omega) (by have := hz.1 hc0; omega))
    · try simp only [decide_eq_true_eq, decide_eq_false_iff_not, Bool.not_eq_true', Bool.not_eq_false', Bool.not_eq_true, Bool.not_eq_false, Int.not_lt, Int.not_le, Nat.not_lt, Nat.not_le, Decidable.not_not, ne_eq] at hc0
      obtain rfl : i' = 8 := by rcases Nat.lt_or_ge i' 8 with q | q <;> first | exact absurd hc0 (hz.2 q) | omega
      refine WC_exit ?_
      refine Ps_next hK3 ?_
      refine WC_sr fun K9 hK9 => ?_
      refine WL_rd (Rd_move rfl) rfl rfl rfl ?_
      refine WL_rd (Rd_assign rfl) rfl rfl rfl ?_
      refine WL_end hK9 ?_
      refine WC_ret ?_
      exact hret.go () (Rs1 rfl rfl)

theorem bigu64_ct {x : BitVec 64}  : Ct Try.prog 43 [.int .u64 ((x.toNat : Nat) : Int)] [] (fun g : Nat => sl (some g) 8 8) (fun g => [arr (some g) 8 1 5 (eU .u8) (big64 x)]) := by
  refine Ct_body (n := 27) Try.func43 rfl rfl rfl fun F w0 Q hret hnorm hp => ?_
  change WC _ _ _ _ _ _ _ (F)
  refine WC_sr fun K1 hK1 => ?_
  refine WL_rd (Rd_assign (v := sl none 0 0) rfl) rfl rfl rfl ?_
  refine WL_end hK1 ?_
  refine WC_sr fun K2 hK2 => ?_
  refine WL_ac (Ac_call cf76 rfl (hs := widthu64_ct)) rfl rfl rfl ?_
  rintro _ _ ⟨⟨⟩, rfl, hA⟩
  simp only [List.cons_append, List.nil_append] at hA
  replace hA := hA.symm
  subst hA
  refine WL_rd (Rd_assign rfl) rfl rfl rfl ?_
  refine WL_end hK2 ?_
  refine WC_sr fun K3 hK3 => ?_
  refine WL_rd (Rd_move rfl) rfl rfl rfl ?_
  refine WL_ac (Ac_make (f := (eU .u8 (w := 8))) (encU .u8) 0#8 (l := 8) (c := 8) rfl rfl ud23 el5 zr5) rfl rfl rfl ?_
  rintro _ _ ⟨b8, rfl, rfl⟩
  rw [show List.replicate 8 0#8 = bigI 8 x 0 from rfl]
  refine WL_rd (Rd_assign rfl) rfl rfl rfl ?_
  refine WL_end hK3 ?_
  refine WC_seq fun K4 hK4 => ?_
  refine WC_sr fun K5 hK5 => ?_
  refine WL_rd (Rd_move rfl) rfl rfl rfl ?_
  refine WL_rd (Rd_len rfl rfl ud23) rfl rfl rfl ?_
  refine WL_rd (Rd_move rfl) rfl rfl rfl ?_
  refine WL_end hK5 ?_
  refine WC_block ?_
  refine WC_loop (σ := Nat) (fun i' => [(0, .int .u64 ((x.toNat : Nat) : Int)), (3, .int .i64 ((8 : Nat) : Int)), (4, sl (some b8) 8 8), (10, .int .i64 ((8 : Nat) : Int)), (11, .int .i64 ((i' : Nat) : Int))]) (fun i' => arr (some b8) 8 1 5 (eU .u8) (bigI 8 x i') :: F) (fun i' => i' ≤ 8) (fun i' => 8 - i') (0) ?_ ?_ ?_ ?_
  · omega
  · exact (Wk.cons (by first | rfl | (simp only [List.length_append, List.length_cons, List.length_nil, List.length_replicate, Nat.zero_add]; rfl) | (simp; done)) (Wk.cons (by first | rfl | (simp only [List.length_append, List.length_cons, List.length_nil, List.length_replicate, Nat.zero_add]; rfl) | (simp; done)) (Wk.cons (by first | rfl | (simp only [List.length_append, List.length_cons, List.length_nil, List.length_replicate, Nat.zero_add]; rfl) | (simp; done)) (Wk.cons (by first | rfl | (simp only [List.length_append, List.length_cons, List.length_nil, List.length_replicate, Nat.zero_add]; rfl) | (simp; done)) (Wk.cons (by first | rfl | (simp only [List.length_append, List.length_cons, List.length_nil, List.length_replicate, Nat.zero_add]; rfl) | (simp; done)) Wk.nil)))))
  · repeat (first | with_reducible exact Sub.refl | with_reducible exact Sub.nil | with_reducible refine Sub.cons (by repeat (first | with_reducible exact Ext.here | with_reducible apply Ext.there)) ?_ | with_reducible refine Sub.tail ?_)
  · rintro i' hi K6 hK6
    have hbl := bigI_len 8 x i'
    refine WC_sr fun K7 hK7 => ?_
    refine WL_rd (Rd_lssN rfl rfl) rfl rfl rfl ?_
    refine WL_end hK7 ?_
    refine WC_seq fun K8 hK8 => ?_
    refine WC_cond rfl (fun hc0 => ?_) (fun hc0 => ?_)
    · try simp only [decide_eq_true_eq, decide_eq_false_iff_not, Bool.not_eq_true', Bool.not_eq_false', Bool.not_eq_true, Bool.not_eq_false, Int.not_lt, Int.not_le, Nat.not_lt, Nat.not_le, Decidable.not_not, ne_eq] at hc0
      refine WC_skip ?_
      refine Ps_next hK8 ?_
      refine WC_seq fun K9 hK9 => ?_
      refine WC_block ?_
      refine WC_sr fun K10 hK10 => ?_
      refine WL_rd (Rd_move rfl) rfl rfl rfl ?_
      refine WL_rd (Rd_assign rfl) rfl rfl rfl ?_
      refine WL_end hK10 ?_
      refine WC_region ?_
      refine WL_rd (Rd_move rfl) rfl rfl rfl ?_
      refine WL_rd (Rd_move rfl) rfl rfl rfl ?_
      refine WL_rd (Rd_subN (i := 8) (j := 1) rfl rfl) rfl rfl rfl ?_
      refine WL_rd (Rd_move rfl) rfl rfl rfl ?_
      refine WL_rd (Rd_subN rfl rfl) rfl rfl rfl ?_
      refine WL_rd (Rd_move rfl) rfl rfl rfl ?_
      refine WL_rd (Rd_move rfl) rfl rfl rfl ?_
      refine WL_rd (Rd_mulN (i := 8) rfl rfl) rfl rfl rfl ?_
      refine WL_rd (Rd_shrU rfl rfl) rfl rfl rfl ?_
      refine WL_rd (Rd_convU rfl ikd58_5 (h' := uk8)) rfl rfl rfl ?_
      refine WL_rd (Rd_index _ rfl rfl ud23 sz5) rfl rfl rfl ?_
      refine WL_ac0 (Ac_storeU rfl rfl sz5) rfl rfl ?_
      rintro _ _ rfl
      rw [bigI_succ]
      refine WL_nil ?_
      refine Ps_next hK9 ?_
      refine WC_region ?_
      refine WL_rd (Rd_addN (j := 1) rfl rfl) rfl rfl rfl ?_
      refine WL_rd (Rd_move rfl) rfl rfl rfl ?_
      refine WL_nil ?_
      refine Ps_wk ((Wk.cons (by first | rfl | (simp only [List.length_append, List.length_cons, List.length_nil, List.length_replicate, Nat.zero_add]; rfl) | (simp; done)) (Wk.cons (by first | rfl | (simp only [List.length_append, List.length_cons, List.length_nil, List.length_replicate, Nat.zero_add]; rfl) | (simp; done)) (Wk.cons (by first | rfl | (simp only [List.length_append, List.length_cons, List.length_nil, List.length_replicate, Nat.zero_add]; rfl) | (simp; done)) (Wk.cons (by first | rfl | (simp only [List.length_append, List.length_cons, List.length_nil, List.length_replicate, Nat.zero_add]; rfl) | (simp; done)) (Wk.cons (by first | rfl | (simp only [List.length_append, List.length_cons, List.length_nil, List.length_replicate, Nat.zero_add]; rfl) | (simp; done)) Wk.nil)))))) (by first | with_reducible exact Sub.refl | ((try dsimp only); repeat (first | with_reducible exact Sub.refl | with_reducible exact Sub.nil | with_reducible refine Sub.cons (by repeat (first | with_reducible exact Ext.here | with_reducible apply Ext.there)) ?_ | with_reducible refine Sub.tail ?_))) (hK6 (i' + 1) (by omega) (by omega))
    · try simp only [decide_eq_true_eq, decide_eq_false_iff_not, Bool.not_eq_true', Bool.not_eq_false', Bool.not_eq_true, Bool.not_eq_false, Int.not_lt, Int.not_le, Nat.not_lt, Nat.not_le, Decidable.not_not, ne_eq] at hc0
      obtain rfl : i' = 8 := by omega
      rw [show big64 x = bigI 8 x 8 from rfl] at hret
      refine WC_exit ?_
      refine Ps_next hK4 ?_
      refine WC_sr fun K11 hK11 => ?_
      refine WL_rd (Rd_move rfl) rfl rfl rfl ?_
      refine WL_rd (Rd_assign rfl) rfl rfl rfl ?_
      refine WL_end hK11 ?_
      refine WC_ret ?_
      exact hret.go b8 (Rs1 rfl rfl)

theorem widthu32_ct   : Ct Try.prog 69 [] [] (fun _ : Unit => .int .i64 ((4 : Nat) : Int)) (fun _ => []) := by
  refine Ct_body (n := 14) Try.func69 rfl rfl rfl fun F w0 Q hret hnorm hp => ?_
  change WC _ _ _ _ _ _ _ (F)
  refine WC_sr fun K1 hK1 => ?_
  refine WL_rd (Rd_assign rfl) rfl rfl rfl ?_
  refine WL_end hK1 ?_
  refine WC_sr fun K2 hK2 => ?_
  refine WL_rd (Rd_assign rfl) rfl rfl rfl ?_
  refine WL_end hK2 ?_
  refine WC_seq fun K3 hK3 => ?_
  refine WC_sr fun K4 hK4 => ?_
  refine WL_rd (Rd_convNU (i := 0) rfl ikd3_44 (h' := uk32)) rfl rfl rfl ?_
  refine WL_rd (Rd_notU rfl) rfl rfl rfl ?_
  refine WL_rd (Rd_assign rfl) rfl rfl rfl ?_
  refine WL_end hK4 ?_
  refine WC_block ?_
  refine WC_loop (σ := Nat) (fun i' => [(1, .int .i64 ((i' : Nat) : Int)), (2, .int .u32 (((w32 i').toNat : Nat) : Int))]) (fun i' => F) (fun i' => i' ≤ 4) (fun i' => 4 - i') (0) ?_ ?_ ?_ ?_
  · omega
  · exact (Wk.cons (by first | rfl | (simp only [List.length_append, List.length_cons, List.length_nil, List.length_replicate, Nat.zero_add]; rfl) | (simp; done)) (Wk.cons (by first | rfl | (simp only [List.length_append, List.length_cons, List.length_nil, List.length_replicate, Nat.zero_add]; rfl) | (simp; done)) Wk.nil))
  · repeat (first | with_reducible exact Sub.refl | with_reducible exact Sub.nil | with_reducible refine Sub.cons (by repeat (first | with_reducible exact Ext.here | with_reducible apply Ext.there)) ?_ | with_reducible refine Sub.tail ?_)
  · rintro i' hi K5 hK5
    have hz := w32_nz i' hi
    refine WC_seq fun K6 hK6 => ?_
    refine WC_sr fun K7 hK7 => ?_
    refine WL_rd (Rd_move rfl) rfl rfl rfl ?_
    refine WL_rd (Rd_neqU (b := 0#32) rfl rfl) rfl rfl rfl ?_
    refine WL_end hK7 ?_
    refine WC_cond rfl (fun hc0 => ?_) (fun hc0 => ?_)
    · try simp only [decide_eq_true_eq, decide_eq_false_iff_not, Bool.not_eq_true', Bool.not_eq_false', Bool.not_eq_true, Bool.not_eq_false, Int.not_lt, Int.not_le, Nat.not_lt, Nat.not_le, Decidable.not_not, ne_eq] at hc0
      refine WC_skip ?_
      refine Ps_next hK6 ?_
      refine WC_seq fun K8 hK8 => ?_
      refine WC_block ?_
      refine WC_region ?_
      refine WL_rd (Rd_move rfl) rfl rfl rfl ?_
      refine WL_rd (Rd_addN (j := 1) rfl rfl) rfl rfl rfl ?_
      refine WL_rd (Rd_assign rfl) rfl rfl rfl ?_
      refine WL_nil ?_
      refine Ps_next hK8 ?_
      refine WC_region ?_
      refine WL_rd (Rd_move rfl) rfl rfl rfl ?_
      refine WL_rd (Rd_convU rfl ikd44_58 (h' := uk64)) rfl rfl rfl ?_
      refine WL_rd (Rd_shrU (j := 8) rfl rfl) rfl rfl rfl ?_
      refine WL_rd (Rd_convU rfl ikd58_44 (h' := uk32)) rfl rfl rfl ?_
      refine WL_rd (Rd_assign rfl) rfl rfl rfl ?_
      refine WL_nil ?_
      refine Ps_wk ((Wk.cons (by first | rfl | (simp only [List.length_append, List.length_cons, List.length_nil, List.length_replicate, Nat.zero_add]; rfl) | (simp; done)) (Wk.cons (by first | rfl | (simp only [List.length_append, List.length_cons, List.length_nil, List.length_replicate, Nat.zero_add]; rfl) | (simp; done)) Wk.nil))) (by first | with_reducible exact Sub.refl | ((try dsimp only); repeat (first | with_reducible exact Sub.refl | with_reducible exact Sub.nil | with_reducible refine Sub.cons (by repeat (first | with_reducible exact Ext.here | with_reducible apply Ext.there)) ?_ | with_reducible refine Sub.tail ?_))) (hK5 (i' + 1) (by have := hz.1 hc0; omega) (by have := hz.1 hc0; omega))
    · try simp only [decide_eq_true_eq, decide_eq_false_iff_not, Bool.not_eq_true', Bool.not_eq_false', Bool.not_eq_true, Bool.not_eq_false, Int.not_lt, Int.not_le, Nat.not_lt, Nat.not_le, Decidable.not_not, ne_eq] at hc0
      obtain rfl : i' = 4 := by rcases Nat.lt_or_ge i' 4 with q | q <;> first | exact absurd hc0 (hz.2 q) | omega
      refine WC_exit ?_
      refine Ps_next hK3 ?_
      refine WC_sr fun K9 hK9 => ?_
      refine WL_rd (Rd_move rfl) rfl rfl rfl ?_
      refine WL_rd (Rd_assign rfl) rfl rfl rfl ?_
      refine WL_end hK9 ?_
      refine WC_ret ?_
      exact hret.go () (Rs1 rfl rfl)

theorem bigu32_ct {x : BitVec 32}  : Ct Try.prog 38 [.int .u32 ((x.toNat : Nat) : Int)] [] (fun g : Nat => sl (some g) 4 4) (fun g => [arr (some g) 4 1 5 (eU .u8) (big32 x)]) := by
  refine Ct_body (n := 28) Try.func38 rfl rfl rfl fun F w0 Q hret hnorm hp => ?_
  change WC _ _ _ _ _ _ _ (F)
  refine WC_sr fun K1 hK1 => ?_
  refine WL_rd (Rd_assign (v := sl none 0 0) rfl) rfl rfl rfl ?_
  refine WL_end hK1 ?_
  refine WC_sr fun K2 hK2 => ?_
  refine WL_ac (Ac_call cf69 rfl (hs := widthu32_ct)) rfl rfl rfl ?_
  rintro _ _ ⟨⟨⟩, rfl, hA⟩
  simp only [List.cons_append, List.nil_append] at hA
  replace hA := hA.symm
  subst hA
  refine WL_rd (Rd_assign rfl) rfl rfl rfl ?_
  refine WL_end hK2 ?_
  refine WC_sr fun K3 hK3 => ?_
  refine WL_rd (Rd_move rfl) rfl rfl rfl ?_
  refine WL_ac (Ac_make (f := (eU .u8 (w := 8))) (encU .u8) 0#8 (l := 4) (c := 4) rfl rfl ud23 el5 zr5) rfl rfl rfl ?_
  rintro _ _ ⟨b8, rfl, rfl⟩
  rw [show List.replicate 4 0#8 = bigI 4 (x.setWidth 64) 0 from rfl]
  refine WL_rd (Rd_assign rfl) rfl rfl rfl ?_
  refine WL_end hK3 ?_
  refine WC_seq fun K4 hK4 => ?_
  refine WC_sr fun K5 hK5 => ?_
  refine WL_rd (Rd_move rfl) rfl rfl rfl ?_
  refine WL_rd (Rd_len rfl rfl ud23) rfl rfl rfl ?_
  refine WL_rd (Rd_move rfl) rfl rfl rfl ?_
  refine WL_end hK5 ?_
  refine WC_block ?_
  refine WC_loop (σ := Nat) (fun i' => [(0, .int .u32 ((x.toNat : Nat) : Int)), (3, .int .i64 ((4 : Nat) : Int)), (4, sl (some b8) 4 4), (10, .int .i64 ((4 : Nat) : Int)), (11, .int .i64 ((i' : Nat) : Int))]) (fun i' => arr (some b8) 4 1 5 (eU .u8) (bigI 4 (x.setWidth 64) i') :: F) (fun i' => i' ≤ 4) (fun i' => 4 - i') (0) ?_ ?_ ?_ ?_
  · omega
  · exact (Wk.cons (by first | rfl | (simp only [List.length_append, List.length_cons, List.length_nil, List.length_replicate, Nat.zero_add]; rfl) | (simp; done)) (Wk.cons (by first | rfl | (simp only [List.length_append, List.length_cons, List.length_nil, List.length_replicate, Nat.zero_add]; rfl) | (simp; done)) (Wk.cons (by first | rfl | (simp only [List.length_append, List.length_cons, List.length_nil, List.length_replicate, Nat.zero_add]; rfl) | (simp; done)) (Wk.cons (by first | rfl | (simp only [List.length_append, List.length_cons, List.length_nil, List.length_replicate, Nat.zero_add]; rfl) | (simp; done)) (Wk.cons (by first | rfl | (simp only [List.length_append, List.length_cons, List.length_nil, List.length_replicate, Nat.zero_add]; rfl) | (simp; done)) Wk.nil)))))
  · repeat (first | with_reducible exact Sub.refl | with_reducible exact Sub.nil | with_reducible refine Sub.cons (by repeat (first | with_reducible exact Ext.here | with_reducible apply Ext.there)) ?_ | with_reducible refine Sub.tail ?_)
  · rintro i' hi K6 hK6
    have hbl := bigI_len 4 (x.setWidth 64) i'
    refine WC_sr fun K7 hK7 => ?_
    refine WL_rd (Rd_lssN rfl rfl) rfl rfl rfl ?_
    refine WL_end hK7 ?_
    refine WC_seq fun K8 hK8 => ?_
    refine WC_cond rfl (fun hc0 => ?_) (fun hc0 => ?_)
    · try simp only [decide_eq_true_eq, decide_eq_false_iff_not, Bool.not_eq_true', Bool.not_eq_false', Bool.not_eq_true, Bool.not_eq_false, Int.not_lt, Int.not_le, Nat.not_lt, Nat.not_le, Decidable.not_not, ne_eq] at hc0
      refine WC_skip ?_
      refine Ps_next hK8 ?_
      refine WC_seq fun K9 hK9 => ?_
      refine WC_block ?_
      refine WC_sr fun K10 hK10 => ?_
      refine WL_rd (Rd_move rfl) rfl rfl rfl ?_
      refine WL_rd (Rd_assign rfl) rfl rfl rfl ?_
      refine WL_end hK10 ?_
      refine WC_region ?_
      refine WL_rd (Rd_move rfl) rfl rfl rfl ?_
      refine WL_rd (Rd_move rfl) rfl rfl rfl ?_
      refine WL_rd (Rd_subN (i := 4) (j := 1) rfl rfl) rfl rfl rfl ?_
      refine WL_rd (Rd_move rfl) rfl rfl rfl ?_
      refine WL_rd (Rd_subN rfl rfl) rfl rfl rfl ?_
      refine WL_rd (Rd_move rfl) rfl rfl rfl ?_
      refine WL_rd (Rd_convU rfl ikd44_58 (h' := uk64)) rfl rfl rfl ?_
      refine WL_rd (Rd_move rfl) rfl rfl rfl ?_
      refine WL_rd (Rd_mulN (i := 8) rfl rfl) rfl rfl rfl ?_
      refine WL_rd (Rd_shrU rfl rfl) rfl rfl rfl ?_
      refine WL_rd (Rd_convU rfl ikd58_5 (h' := uk8)) rfl rfl rfl ?_
      refine WL_rd (Rd_index _ rfl rfl ud23 sz5) rfl rfl rfl ?_
      refine WL_ac0 (Ac_storeU rfl rfl sz5) rfl rfl ?_
      rintro _ _ rfl
      rw [bigI_succ]
      refine WL_nil ?_
      refine Ps_next hK9 ?_
      refine WC_region ?_
      refine WL_rd (Rd_addN (j := 1) rfl rfl) rfl rfl rfl ?_
      refine WL_rd (Rd_move rfl) rfl rfl rfl ?_
      refine WL_nil ?_
      refine Ps_wk ((Wk.cons (by first | rfl | (simp only [List.length_append, List.length_cons, List.length_nil, List.length_replicate, Nat.zero_add]; rfl) | (simp; done)) (Wk.cons (by first | rfl | (simp only [List.length_append, List.length_cons, List.length_nil, List.length_replicate, Nat.zero_add]; rfl) | (simp; done)) (Wk.cons (by first | rfl | (simp only [List.length_append, List.length_cons, List.length_nil, List.length_replicate, Nat.zero_add]; rfl) | (simp; done)) (Wk.cons (by first | rfl | (simp only [List.length_append, List.length_cons, List.length_nil, List.length_replicate, Nat.zero_add]; rfl) | (simp; done)) (Wk.cons (by first | rfl | (simp only [List.length_append, List.length_cons, List.length_nil, List.length_replicate, Nat.zero_add]; rfl) | (simp; done)) Wk.nil)))))) (by first | with_reducible exact Sub.refl | ((try dsimp only); repeat (first | with_reducible exact Sub.refl | with_reducible exact Sub.nil | with_reducible refine Sub.cons (by repeat (first | with_reducible exact Ext.here | with_reducible apply Ext.there)) ?_ | with_reducible refine Sub.tail ?_))) (hK6 (i' + 1) (by omega) (by omega))
    · try simp only [decide_eq_true_eq, decide_eq_false_iff_not, Bool.not_eq_true', Bool.not_eq_false', Bool.not_eq_true, Bool.not_eq_false, Int.not_lt, Int.not_le, Nat.not_lt, Nat.not_le, Decidable.not_not, ne_eq] at hc0
      obtain rfl : i' = 4 := by omega
      rw [show big32 x = bigI 4 (x.setWidth 64) 4 from rfl] at hret
      refine WC_exit ?_
      refine Ps_next hK4 ?_
      refine WC_sr fun K11 hK11 => ?_
      refine WL_rd (Rd_move rfl) rfl rfl rfl ?_
      refine WL_rd (Rd_assign rfl) rfl rfl rfl ?_
      refine WL_end hK11 ?_
      refine WC_ret ?_
      exact hret.go b8 (Rs1 rfl rfl)
end Go.Proofs.Ytlcafifjhilleaa
namespace Go.Proofs.Ytlcafifjhilleaa
open Go.RowKit Go.SL Go.ShM
set_option maxHeartbeats 1000000
set_option maxRecDepth 20000
set_option linter.all false
theorem cf43 : cfn Try.prog 43 = true := by kernel_rfl
theorem pad_ct {n : Nat} (hn : n ≤ 1152921504606846976 := by omega) : Ct Try.prog 90 [.int .i64 ((n : Nat) : Int)] [] (fun g : Option Nat × Nat => .tuple #[sl g.1 (padM n).length g.2, .int .i64 0]) (fun g => [arr g.1 g.2 1 5 (eU .u8) (padM n)]) := by
  refine Ct_body (n := 29) Try.func90 rfl rfl rfl fun F w0 Q hret hnorm hp => ?_
  change WC _ _ _ _ _ _ _ (F)
  refine WC_sr fun K1 hK1 => ?_
  refine WL_rd (Rd_assign (v := sl none 0 0) rfl) rfl rfl rfl ?_
  refine WL_rd (Rd_assign rfl) rfl rfl rfl ?_
  refine WL_end hK1 ?_
  refine WC_seq fun K2 hK2 => ?_
  refine WC_sr fun K3 hK3 => ?_
  refine WL_rd (Rd_move rfl) rfl rfl rfl ?_
  refine WL_rd (Rd_isF (Rd_lssN (j := 0) rfl rfl)) rfl rfl rfl ?_
  refine WL_rd (Rd_move rfl) rfl rfl rfl ?_
  refine WL_rd (Rd_move rfl) rfl rfl rfl ?_
  refine WL_rd (Rd_isF (Rd_gtrN (j := 1152921504606846976) rfl rfl)) rfl rfl rfl ?_
  refine WL_rd (Rd_pickF rfl rfl) rfl rfl rfl ?_
  refine WL_end hK3 ?_
  refine WC_condF rfl ?_
  refine WC_skip ?_
  refine Ps_next hK2 ?_
  refine WC_sr fun K4 hK4 => ?_
  refine WL_ac (Ac_make (f := (eU .u8 (w := 8))) (encU .u8) 0#8 (l := 1) (c := 72) rfl rfl ud23 el5 zr5) rfl rfl rfl ?_
  rintro _ _ ⟨b11, rfl, rfl⟩
  refine WL_rd (Rd_assign rfl) rfl rfl rfl ?_
  refine WL_end hK4 ?_
  refine WC_sr fun K5 hK5 => ?_
  refine WL_rd (Rd_move rfl) rfl rfl rfl ?_
  refine WL_rd (Rd_index 0 rfl rfl ud23 sz5) rfl rfl rfl ?_
  refine WL_ac0 (Ac_storeU (a := 128#8) rfl rfl sz5) rfl rfl ?_
  rintro _ _ rfl
  rw [show (List.replicate 1 0#8).set 0 128#8 = 128#8 :: List.replicate 0 0#8 from rfl]
  refine WL_end hK5 ?_
  refine WC_seq fun K6 hK6 => ?_
  refine WC_block ?_
  refine WC_loop (σ := Nat × (Option Nat) × Nat) (fun ⟨j, a, cap⟩ => [(0, .int .i64 ((n : Nat) : Int)), (4, sl a (j + 1) cap)]) (fun ⟨j, a, cap⟩ => arr a cap 1 5 (eU .u8) (128#8 :: List.replicate j 0#8) :: F) (fun ⟨j, a, cap⟩ => j ≤ padZ n) (fun ⟨j, a, cap⟩ => padZ n - j) ⟨0, some b11, 72⟩ ?_ ?_ ?_ ?_
  · exact Nat.zero_le _
  · exact (Wk.cons (by first | rfl | (simp only [List.length_append, List.length_cons, List.length_nil, List.length_replicate, Nat.zero_add]; rfl) | (simp; done)) (Wk.cons (by first | rfl | (simp only [List.length_append, List.length_cons, List.length_nil, List.length_replicate, Nat.zero_add]; rfl) | (simp; done)) Wk.nil))
  · repeat (first | with_reducible exact Sub.refl | with_reducible exact Sub.nil | with_reducible refine Sub.cons (by repeat (first | with_reducible exact Ext.here | with_reducible apply Ext.there)) ?_ | with_reducible refine Sub.tail ?_)
  · rintro ⟨j, a, cap⟩ hj K7 hK7
    have hz := padZ_go hj
    have hzl := padZ_lt n
    have hgl : (128#8 :: List.replicate j 0#8).length = j + 1 := by simp
    refine WC_seq fun K8 hK8 => ?_
    refine WC_sr fun K9 hK9 => ?_
    refine WL_rd (Rd_move rfl) rfl rfl rfl ?_
    refine WL_rd (Rd_move rfl) rfl rfl rfl ?_
    refine WL_rd (Rd_len rfl rfl ud23) rfl rfl rfl ?_
    refine WL_rd (Rd_addN rfl rfl) rfl rfl rfl ?_
    refine WL_rd (Rd_remN (j := 64) rfl rfl) rfl rfl rfl ?_
    refine WL_rd (Rd_neqN (j := 56) rfl rfl) rfl rfl rfl ?_
    refine WL_end hK9 ?_
    refine WC_cond rfl (fun hc1 => ?_) (fun hc1 => ?_)
    · try simp only [decide_eq_true_eq, decide_eq_false_iff_not, Bool.not_eq_true', Bool.not_eq_false', Bool.not_eq_true, Bool.not_eq_false, Int.not_lt, Int.not_le, Nat.not_lt, Nat.not_le, Decidable.not_not, ne_eq] at hc1
      refine WC_skip ?_
      refine Ps_next hK8 ?_
      refine WC_block ?_
      refine WC_region ?_
      refine WL_rd (Rd_move rfl) rfl rfl rfl ?_
      refine WL_ac (Ac_bs1 rfl ud23 zr5 sz5) rfl rfl rfl ?_
      rintro _ _ ⟨b21, rfl, rfl⟩
      refine WL_ac (Ac_append1 (f := (eU .u8 (w := 8))) (encU .u8) 0#8 rfl rfl ud23 ud23 el5) rfl rfl rfl ?_
      rintro _ _ ⟨a22, cap22, rfl, rfl⟩
      rw [padGrow]
      refine WL_rd (Rd_assign rfl) rfl rfl rfl ?_
      refine WL_nil ?_
      refine Ps_wk ((Wk.cons (by first | rfl | (simp only [List.length_append, List.length_cons, List.length_nil, List.length_replicate, Nat.zero_add]; rfl) | (simp; done)) (Wk.cons (by first | rfl | (simp only [List.length_append, List.length_cons, List.length_nil, List.length_replicate, Nat.zero_add]; rfl) | (simp; done)) Wk.nil))) (by first | with_reducible exact Sub.refl | ((try dsimp only); repeat (first | with_reducible exact Sub.refl | with_reducible exact Sub.nil | with_reducible refine Sub.cons (by repeat (first | with_reducible exact Ext.here | with_reducible apply Ext.there)) ?_ | with_reducible refine Sub.tail ?_))) (hK7 ⟨j + 1, a22, cap22⟩ (by dsimp only; have := hz.1 hc1; omega) (by dsimp only; have := hz.1 hc1; omega))
    · try simp only [decide_eq_true_eq, decide_eq_false_iff_not, Bool.not_eq_true', Bool.not_eq_false', Bool.not_eq_true, Bool.not_eq_false, Int.not_lt, Int.not_le, Nat.not_lt, Nat.not_le, Decidable.not_not, ne_eq] at hc1
      obtain rfl : j = padZ n := by rcases Nat.lt_or_ge j (padZ n) with q | q <;> first | exact absurd hc1 (hz.2 q) | omega
      refine WC_exit ?_
      refine Ps_next hK6 ?_
      refine WC_sr fun K10 hK10 => ?_
      refine WL_rd (Rd_move rfl) rfl rfl rfl ?_
      refine WL_rd (Rd_move rfl) rfl rfl rfl ?_
      refine WL_rd (Rd_convNU rfl ikd3_58 (h' := uk64)) rfl rfl rfl ?_
      refine WL_rd (Rd_mulU (b := 8#64) rfl rfl) rfl rfl rfl ?_
      refine WL_ac (Ac_call cf43 rfl (hs := bigu64_ct (x := (BitVec.ofNat 64 n * 8#64)))) rfl rfl rfl ?_
      rintro _ _ ⟨g27, rfl, hA⟩
      simp only [List.cons_append, List.nil_append] at hA
      replace hA := hA.symm
      subst hA
      have hSg : Sv [arr (some g27) 8 1 5 (eU .u8) (big64 (BitVec.ofNat 64 n * 8#64))] (sl (some g27) 8 8) 1 (eU .u8 (w := 8)) (big64 (BitVec.ofNat 64 n * 8#64)) (some ⟨g27, 0, none⟩) 8 := by have h := Sv_own' (a := some g27) (cap := 8) (T := 5) (encU .u8 (w := 8)) (l := big64 (BitVec.ofNat 64 n * 8#64)) (by simp) (by rw [big64_len]; exact Nat.le_refl _); rw [big64_len] at h; exact h
      have hbl8 := big64_len (BitVec.ofNat 64 n * 8#64)
      refine WL_ac (Ac_appendS (f := (eU .u8 (w := 8))) (encU .u8) rfl rfl ud23 ud23 el5) rfl rfl rfl ?_
      rintro _ _ ⟨a28, cap28, rfl, rfl⟩
      rw [show (128#8 :: List.replicate (padZ n) 0#8) ++ big64 (BitVec.ofNat 64 n * 8#64) = padM n from rfl]
      refine WL_rd (Rd_assign rfl) rfl rfl rfl ?_
      refine WL_rd (Rd_assign rfl) rfl rfl rfl ?_
      refine WL_end hK10 ?_
      refine WC_ret ?_
      exact hret.goE (a28, cap28) (Rs2 rfl rfl rfl) (by simp [padM, big64_len, bigR_len])

end Go.Proofs.Ytlcafifjhilleaa
namespace Go.Proofs.Ytlcafifjhilleaa
open Go.RowKit Go.SL Go.ShM
set_option maxHeartbeats 1000000
set_option maxRecDepth 20000
set_option linter.all false

theorem padR_ct {n : Nat} (hn : n ≤ 1152921504606846976 := by omega) : Ct Try.prog 39 [.int .i64 ((n : Nat) : Int)] [] (fun g : Option Nat × Nat => .tuple #[sl g.1 (padM n).length g.2, .int .i64 0]) (fun g => [arr g.1 g.2 1 5 (eU .u8) (padM n)]) := by
  refine Ct_body (n := 40) Try.func39 rfl rfl rfl fun F w0 Q hret hnorm hp => ?_
  change WC _ _ _ _ _ _ _ (F)
  refine WC_sr fun K1 hK1 => ?_
  refine WL_rd (Rd_assign (v := sl none 0 0) rfl) rfl rfl rfl ?_
  refine WL_rd (Rd_assign rfl) rfl rfl rfl ?_
  refine WL_end hK1 ?_
  refine WC_seq fun K2 hK2 => ?_
  refine WC_sr fun K3 hK3 => ?_
  refine WL_rd (Rd_move rfl) rfl rfl rfl ?_
  refine WL_rd (Rd_isF (Rd_lssN (j := 0) rfl rfl)) rfl rfl rfl ?_
  refine WL_rd (Rd_move rfl) rfl rfl rfl ?_
  refine WL_rd (Rd_move rfl) rfl rfl rfl ?_
  refine WL_rd (Rd_isF (Rd_gtrN (j := 1152921504606846976) rfl rfl)) rfl rfl rfl ?_
  refine WL_rd (Rd_pickF rfl rfl) rfl rfl rfl ?_
  refine WL_end hK3 ?_
  refine WC_condF rfl ?_
  refine WC_skip ?_
  refine Ps_next hK2 ?_
  refine WC_sr fun K4 hK4 => ?_
  refine WL_ac (Ac_bsL (zs := [.int .u8 0]) (bs := [.int .u8 0]) [128#8] (encU .u8) ud23 zr5 sz5 rfl (by rw [Array.toList_map, Array.toList_range]; rfl) (by rfl) (by rfl) (by rfl) (by rfl)) rfl rfl rfl ?_
  rintro _ _ ⟨b0, rfl, rfl⟩
  rw [show [128#8] = 128#8 :: List.replicate 0 0#8 from rfl]
  refine WL_rd (Rd_assign rfl) rfl rfl rfl ?_
  refine WL_end hK4 ?_
  refine WC_seq fun K5 hK5 => ?_
  refine WC_block ?_
  refine WC_loop (σ := Nat × (Option Nat) × Nat) (fun ⟨j, a, cap⟩ => [(0, .int .i64 ((n : Nat) : Int)), (4, sl a (j + 1) cap)]) (fun ⟨j, a, cap⟩ => arr a cap 1 5 (eU .u8) (128#8 :: List.replicate j 0#8) :: F) (fun ⟨j, a, cap⟩ => j ≤ padZ n) (fun ⟨j, a, cap⟩ => padZ n - j) ⟨0, some b0, 1⟩ ?_ ?_ ?_ ?_
  · exact Nat.zero_le _
  · exact (Wk.cons (by first | rfl | (simp only [List.length_append, List.length_cons, List.length_nil, List.length_replicate, Nat.zero_add]; rfl) | (simp; done)) (Wk.cons (by first | rfl | (simp only [List.length_append, List.length_cons, List.length_nil, List.length_replicate, Nat.zero_add]; rfl) | (simp; done)) Wk.nil))
  · repeat (first | with_reducible exact Sub.refl | with_reducible exact Sub.nil | with_reducible refine Sub.cons (by repeat (first | with_reducible exact Ext.here | with_reducible apply Ext.there)) ?_ | with_reducible refine Sub.tail ?_)
  · rintro ⟨j, a, cap⟩ hj K6 hK6
    have hz := padZ_go hj
    have hzl := padZ_lt n
    have hgl : (128#8 :: List.replicate j 0#8).length = j + 1 := by simp
    refine WC_seq fun K7 hK7 => ?_
    refine WC_sr fun K8 hK8 => ?_
    refine WL_rd (Rd_move rfl) rfl rfl rfl ?_
    refine WL_rd (Rd_move rfl) rfl rfl rfl ?_
    refine WL_rd (Rd_len rfl rfl ud23) rfl rfl rfl ?_
    refine WL_rd (Rd_addN rfl rfl) rfl rfl rfl ?_
    refine WL_rd (Rd_remN (j := 64) rfl rfl) rfl rfl rfl ?_
    refine WL_rd (Rd_neqN (j := 56) rfl rfl) rfl rfl rfl ?_
    refine WL_end hK8 ?_
    refine WC_cond rfl (fun hc1 => ?_) (fun hc1 => ?_)
    · try simp only [decide_eq_true_eq, decide_eq_false_iff_not, Bool.not_eq_true', Bool.not_eq_false', Bool.not_eq_true, Bool.not_eq_false, Int.not_lt, Int.not_le, Nat.not_lt, Nat.not_le, Decidable.not_not, ne_eq] at hc1
      refine WC_skip ?_
      refine Ps_next hK7 ?_
      refine WC_block ?_
      refine WC_region ?_
      refine WL_rd (Rd_move rfl) rfl rfl rfl ?_
      refine WL_ac (Ac_bs1 rfl ud23 zr5 sz5) rfl rfl rfl ?_
      rintro _ _ ⟨b21, rfl, rfl⟩
      refine WL_ac (Ac_append1 (f := (eU .u8 (w := 8))) (encU .u8) 0#8 rfl rfl ud23 ud23 el5) rfl rfl rfl ?_
      rintro _ _ ⟨a22, cap22, rfl, rfl⟩
      rw [padGrow]
      refine WL_rd (Rd_assign rfl) rfl rfl rfl ?_
      refine WL_nil ?_
      refine Ps_wk ((Wk.cons (by first | rfl | (simp only [List.length_append, List.length_cons, List.length_nil, List.length_replicate, Nat.zero_add]; rfl) | (simp; done)) (Wk.cons (by first | rfl | (simp only [List.length_append, List.length_cons, List.length_nil, List.length_replicate, Nat.zero_add]; rfl) | (simp; done)) Wk.nil))) (by first | with_reducible exact Sub.refl | ((try dsimp only); repeat (first | with_reducible exact Sub.refl | with_reducible exact Sub.nil | with_reducible refine Sub.cons (by repeat (first | with_reducible exact Ext.here | with_reducible apply Ext.there)) ?_ | with_reducible refine Sub.tail ?_))) (hK6 ⟨j + 1, a22, cap22⟩ (by dsimp only; have := hz.1 hc1; omega) (by dsimp only; have := hz.1 hc1; omega))
    · try simp only [decide_eq_true_eq, decide_eq_false_iff_not, Bool.not_eq_true', Bool.not_eq_false', Bool.not_eq_true, Bool.not_eq_false, Int.not_lt, Int.not_le, Nat.not_lt, Nat.not_le, Decidable.not_not, ne_eq] at hc1
      obtain rfl : j = padZ n := by rcases Nat.lt_or_ge j (padZ n) with q | q <;> first | exact absurd hc1 (hz.2 q) | omega
      dsimp only
      rw [show (128#8 :: List.replicate (padZ n) 0#8) = (128#8 :: List.replicate (padZ n) 0#8) ++ bigR (BitVec.ofNat 64 n * 8#64) 0 from by simp [bigR]]
      refine WC_exit ?_
      refine Ps_next hK5 ?_
      refine WC_sr fun K9 hK9 => ?_
      refine WL_rd (Rd_move rfl) rfl rfl rfl ?_
      refine WL_rd (Rd_convNU rfl ikd3_58 (h' := uk64)) rfl rfl rfl ?_
      refine WL_rd (Rd_mulU (b := 8#64) rfl rfl) rfl rfl rfl ?_
      refine WL_rd (Rd_assign rfl) rfl rfl rfl ?_
      refine WL_end hK9 ?_
      refine WC_seq fun K10 hK10 => ?_
      refine WC_sr fun K11 hK11 => ?_
      refine WL_rd (Rd_assign rfl) rfl rfl rfl ?_
      refine WL_end hK11 ?_
      refine WC_block ?_
      refine WC_loop (σ := Nat × (Option Nat) × Nat) (fun ⟨q, a2, cap2⟩ => [(0, .int .i64 ((n : Nat) : Int)), (4, sl a2 (padZ n + 1 + q) cap2), (5, .int .u64 (((BitVec.ofNat 64 n * 8#64).toNat : Nat) : Int)), (6, .int .i64 (7 - (q : Int)))]) (fun ⟨q, a2, cap2⟩ => arr a2 cap2 1 5 (eU .u8) ((128#8 :: List.replicate (padZ n) 0#8) ++ bigR (BitVec.ofNat 64 n * 8#64) q) :: F) (fun ⟨q, a2, cap2⟩ => q ≤ 8) (fun ⟨q, a2, cap2⟩ => 8 - q) ⟨0, a, cap⟩ ?_ ?_ ?_ ?_
      · exact Nat.zero_le _
      · exact (Wk.cons (by first | rfl | (simp only [List.length_append, List.length_cons, List.length_nil, List.length_replicate, Nat.zero_add]; rfl) | (simp; done)) (Wk.cons (by first | rfl | (simp only [List.length_append, List.length_cons, List.length_nil, List.length_replicate, Nat.zero_add]; rfl) | (simp; done)) (Wk.cons (by first | rfl | (simp only [List.length_append, List.length_cons, List.length_nil, List.length_replicate, Nat.zero_add]; rfl) | (simp; done)) (Wk.cons (by first | rfl | (simp only [List.length_append, List.length_cons, List.length_nil, List.length_replicate, Nat.zero_add]; rfl) | (simp; done)) Wk.nil))))
      · repeat (first | with_reducible exact Sub.refl | with_reducible exact Sub.nil | with_reducible refine Sub.cons (by repeat (first | with_reducible exact Ext.here | with_reducible apply Ext.there)) ?_ | with_reducible refine Sub.tail ?_)
      · rintro ⟨q, a2, cap2⟩ hq K12 hK12
        have hgl2 : ((128#8 :: List.replicate (padZ n) 0#8) ++ bigR (BitVec.ofNat 64 n * 8#64) q).length = padZ n + 1 + q := by simp [bigR_len]; omega
        refine WC_seq fun K13 hK13 => ?_
        refine WC_sr fun K14 hK14 => ?_
        refine WL_rd (Rd_move rfl) rfl rfl rfl ?_
        refine WL_rd (Rd_geq rfl rfl) rfl rfl rfl ?_
        refine WL_end hK14 ?_
        refine WC_cond rfl (fun hc2 => ?_) (fun hc2 => ?_)
        · try simp only [decide_eq_true_eq, decide_eq_false_iff_not, Bool.not_eq_true', Bool.not_eq_false', Bool.not_eq_true, Bool.not_eq_false, Int.not_lt, Int.not_le, Nat.not_lt, Nat.not_le, Decidable.not_not, ne_eq] at hc2
          refine WC_skip ?_
          refine Ps_next hK13 ?_
          refine WC_seq fun K15 hK15 => ?_
          refine WC_block ?_
          refine WC_region ?_
          refine WL_rd (Rd_move rfl) rfl rfl rfl ?_
          refine WL_rd (Rd_move rfl) rfl rfl rfl ?_
          refine WL_rd (Rd_moveE (v := .int .i64 ((7 - q : Nat) : Int)) rfl (by congr 1; omega)) rfl rfl rfl ?_
          refine WL_rd (Rd_mulN (i := 8) rfl rfl) rfl rfl rfl ?_
          refine WL_rd (Rd_conv rfl ikd3_82 (r := ((8 * (7 - q) : Nat) : Int)) (wrap_u64n (by omega))) rfl rfl rfl ?_
          refine WL_rd (Rd_shrU rfl rfl) rfl rfl rfl ?_
          refine WL_rd (Rd_convU rfl ikd58_5 (h' := uk8)) rfl rfl rfl ?_
          refine WL_ac (Ac_bs1 rfl ud23 zr5 sz5) rfl rfl rfl ?_
          rintro _ _ ⟨b37, rfl, rfl⟩
          refine WL_ac (Ac_append1 (f := (eU .u8 (w := 8))) (encU .u8) (((BitVec.ofNat 64 n * 8#64) >>> (8 * (7 - q))).setWidth 8) rfl rfl ud23 ud23 el5) rfl rfl rfl ?_
          rintro _ _ ⟨a38, cap38, rfl, rfl⟩
          rw [hgl2, List.append_assoc, bigR_succ]
          refine WL_rd (Rd_assign rfl) rfl rfl rfl ?_
          refine WL_nil ?_
          refine Ps_next hK15 ?_
          refine WC_region ?_
          refine WL_rd (Rd_move rfl) rfl rfl rfl ?_
          refine WL_rd (Rd_sub' (r := 7 - ((q + 1 : Nat) : Int)) rfl rfl (wr64 (by omega) (by omega) (by omega))) rfl rfl rfl ?_
          refine WL_rd (Rd_assign rfl) rfl rfl rfl ?_
          refine WL_nil ?_
          refine Ps_wk ((Wk.cons (by first | rfl | (simp only [List.length_append, List.length_cons, List.length_nil, List.length_replicate, Nat.zero_add]; rfl) | (simp; done)) (Wk.cons (by first | rfl | (simp only [List.length_append, List.length_cons, List.length_nil, List.length_replicate, Nat.zero_add]; rfl) | (simp; done)) (Wk.cons (by first | rfl | (simp only [List.length_append, List.length_cons, List.length_nil, List.length_replicate, Nat.zero_add]; rfl) | (simp; done)) (Wk.cons (by first | rfl | (simp only [List.length_append, List.length_cons, List.length_nil, List.length_replicate, Nat.zero_add]; rfl) | (simp; done)) Wk.nil))))) (by first | with_reducible exact Sub.refl | ((try dsimp only); repeat (first | with_reducible exact Sub.refl | with_reducible exact Sub.nil | with_reducible refine Sub.cons (by repeat (first | with_reducible exact Ext.here | with_reducible apply Ext.there)) ?_ | with_reducible refine Sub.tail ?_))) (hK12 ⟨q + 1, a38, cap38⟩ (by dsimp only; omega) (by dsimp only; omega))
        · try simp only [decide_eq_true_eq, decide_eq_false_iff_not, Bool.not_eq_true', Bool.not_eq_false', Bool.not_eq_true, Bool.not_eq_false, Int.not_lt, Int.not_le, Nat.not_lt, Nat.not_le, Decidable.not_not, ne_eq] at hc2
          obtain rfl : q = 8 := by omega
          dsimp only
          rw [show (128#8 :: List.replicate (padZ n) 0#8) ++ bigR (BitVec.ofNat 64 n * 8#64) 8 = padM n from rfl]
          refine WC_exit ?_
          refine Ps_next hK10 ?_
          refine WC_sr fun K16 hK16 => ?_
          refine WL_rd (Rd_move rfl) rfl rfl rfl ?_
          refine WL_rd (Rd_assign rfl) rfl rfl rfl ?_
          refine WL_rd (Rd_assign rfl) rfl rfl rfl ?_
          refine WL_end hK16 ?_
          refine WC_ret ?_
          exact hret.goE (a2, cap2) (Rs2 rfl rfl rfl) (by simp [padM, big64_len, bigR_len])
end Go.Proofs.Ytlcafifjhilleaa
