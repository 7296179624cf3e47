/-
  Contracts of functions that the claim reaches, or the logic and the plain laws that they rest on, or the row over them. (Conditions: none beyond the statement.)
-/
import Derived.Test.YtoakfknnaiapiaaSqGe
import Derived.Test.YtoakfknnaiapiaaSvLB
import Derived.Test.YtoakfknnaiapiaaLibA
import Derived.Test.YtoakfknnaiapiaaLibE
set_option linter.all false
namespace Go.Proofs.Ytoakfknnaiapiaa
open Go.RowKit Go.SL Go.ShM Go.SvM
set_option maxHeartbeats 1000000
set_option maxRecDepth 20000
set_option linter.all false
theorem cf84 : cfn Try.prog 84 = true := by kernel_rfl
theorem cf104 : cfn Try.prog 104 = true := by kernel_rfl
theorem nan_ct {x : B32}  : Ct Try.prog 104 [.int .u32 ((x.toNat : Nat) : Int)] [] (fun _ : Unit => .bool false) (fun _ => []) := by
 refine Ct_body (n := 6) Try.func104 rfl rfl rfl fun F w0 Q hret hnorm hp => ?_
 change WC _ _ _ _ _ _ _ (F)
 refine WC_sr fun K1 hK1 => ?_
 refine WL_r (Rd_assign rfl) rfl ?_
 refine WL_end hK1 ?_
 refine WC_sr fun K2 hK2 => ?_
 refine WL_r (Rd_move rfl) rfl ?_
 refine WL_r (Rd_move rfl) rfl ?_
 refine WL_r (Rd_neqU rfl rfl) rfl ?_
 refine WL_r (Rd_assign rfl) rfl ?_
 refine WL_end hK2 ?_
 refine WC_ret ?_
 exact hret.goE () (Rs1 rfl rfl) (by simp)

theorem lessW_ct {x y : B32}  : Ct Try.prog 84 [.int .u32 ((x.toNat : Nat) : Int), .int .u32 ((y.toNat : Nat) : Int)] [] (fun _ : Unit => .bool (decide (x.toNat < y.toNat))) (fun _ => []) := by
 refine Ct_body (n := 17) Try.func84 rfl rfl rfl fun F w0 Q hret hnorm hp => ?_
 change WC _ _ _ _ _ _ _ (F)
 refine WC_sr fun K1 hK1 => ?_
 refine WL_r (Rd_assign rfl) rfl ?_
 refine WL_end hK1 ?_
 refine WC_sr fun K2 hK2 => ?_
 refine WL_r (Rd_move rfl) rfl ?_
 refine WL_ac (Ac_call cf104 rfl (hs := nan_ct (x := x))) rfl rfl rfl ?_
 rintro _ _ ⟨⟨⟩, rfl, hA⟩
 simp only [List.cons_append, List.nil_append] at hA
 replace hA := hA.symm
 subst hA
 refine WL_r (Rd_move rfl) rfl ?_
 refine WL_skip rfl rfl rfl ?_
 refine WL_skip rfl rfl rfl ?_
 refine WL_skip rfl rfl rfl ?_
 refine WL_r (Rd_pickF rfl rfl) rfl ?_
 refine WL_r (Rd_move rfl) rfl ?_
 refine WL_r (Rd_move rfl) rfl ?_
 refine WL_r (Rd_move rfl) rfl ?_
 refine WL_r (Rd_lssN rfl rfl) rfl ?_
 refine WL_r (Rd_pickF rfl rfl) rfl ?_
 refine WL_r (Rd_assign rfl) rfl ?_
 refine WL_end hK2 ?_
 refine WC_ret ?_
 exact hret.goE () (Rs1 rfl rfl) (by first | rfl | (congr 1; done) | (congr 1; rw [Bool.eq_iff_iff]; simp))

theorem insW_ct {a : Option Nat} {cap : Nat} {l : List B32} (hn : l.length ≤ 1000) : Ct Try.prog 78 [sl a l.length cap, .int .i64 0, .int .i64 ((l.length : Nat) : Int)] [arr a cap 1 25 (eU .u32 (w := 32)) l] (fun _ : Unit => .tuple #[]) (fun _ => [arr a cap 1 25 (eU .u32 (w := 32)) (l.mergeSort fun x y => decide (x.toNat ≤ y.toNat))]) := by
 refine Ct_body (n := 49) Try.func78 rfl rfl rfl fun F w0 Q hret hnorm hp => ?_
 change WC _ _ _ _ _ _ _ (_ :: F)
 refine WC_sr fun K1 hK1 => ?_
 refine WL_r (Rd_move rfl) rfl ?_
 refine WL_r (Rd_addN (i := 0) (j := 1) rfl rfl) rfl ?_
 refine WL_r (Rd_assign rfl) rfl ?_
 refine WL_end hK1 ?_
 refine WC_block ?_
 refine WC_loopK (σ := Nat × (List B32)) (fun ⟨i, m⟩ => [(6, .int .i64 ((i : Nat) : Int))]) (fun ⟨i, m⟩ => [arr a cap 1 25 (eU .u32 (w := 32)) m]) (fun ⟨i, m⟩ => 1 ≤ i ∧ m.Perm l ∧ ordA m i ∧ m.length = l.length) (fun ⟨i, m⟩ => l.length - i) ⟨1, l⟩ [0, 1, 2] kpA (by (try dsimp only); repeat (first | with_reducible exact Gv.nil | (with_reducible apply Gv.cons; · (repeat (first | with_reducible exact Ext.here | with_reducible apply Ext.there))))) ?_ ?_ Sub.refl ?_
 ·exact ⟨Nat.le_refl _, List.Perm.refl _, fun p q h1 h2 => by omega, rfl⟩
 ·(try dsimp only); exact (Wk.cons lkA Wk.nil)
 ·rintro ⟨i, m⟩ ⟨hi, hpm, hod, hml⟩ K2 hK2
  simp only [List.cons_append, List.nil_append]
  refine WC_seq fun K3 hK3 => ?_
  refine WC_sr fun K4 hK4 => ?_
  refine WL_r (Rd_move rfl) rfl ?_
  refine WL_r (Rd_move rfl) rfl ?_
  refine WL_r (Rd_lssN rfl rfl) rfl ?_
  refine WL_end hK4 ?_
  refine WC_cond rfl (fun hc0 => ?_) (fun hc0 => ?_)
  ·try simp only [dz, ne_eq] at hc0
   refine WC_some (a := a) hasA (by omega) (fun ga hga hcpa => ?_)
   subst hga
   refine WC_skip ?_
   refine Ps_next hK3 ?_
   refine WC_seq fun K5 hK5 => ?_
   refine WC_block ?_
   refine WC_sr fun K6 hK6 => ?_
   refine WL_r (Rd_move rfl) rfl ?_
   refine WL_r (Rd_assign rfl) rfl ?_
   refine WL_end hK6 ?_
   refine WC_block ?_
   refine WC_loopK (σ := Nat × (List B32)) (fun ⟨j, w⟩ => [(7, .int .i64 ((j : Nat) : Int))]) (fun ⟨j, w⟩ => [arr (some ga) cap 1 25 (eU .u32 (w := 32)) w]) (fun ⟨j, w⟩ => j ≤ i ∧ w.Perm l ∧ ordE w (i + 1) j ∧ w.length = l.length) (fun ⟨j, w⟩ => j) ⟨i, m⟩ [0, 1, 2, 6, 10, 11, 12, 13, 14, 15] kpA (by (try dsimp only); repeat (first | with_reducible exact Gv.nil | (with_reducible apply Gv.cons; · (repeat (first | with_reducible exact Ext.here | with_reducible apply Ext.there))))) ?_ ?_ Sub.refl ?_
   ·exact ⟨Nat.le_refl _, hpm, ordE_of hod, hml⟩
   ·(try dsimp only); exact (Wk.cons lkA Wk.nil)
   ·rintro ⟨j, w⟩ ⟨hj, hpw, hoe, hwl⟩ K7 hK7
    simp only [List.cons_append, List.nil_append]
    refine WC_seq fun K8 hK8 => ?_
    refine WC_seq fun K9 hK9 => ?_
    refine WC_draw mix [arr (some ga) cap 1 25 (eU .u32 (w := 32)) w] (fun i => ([2, 2, 2, 2, 2, 2, 2, 2, 2, 2, 2, 2, 2, 1, 2] : List Nat).getD i 0) ?_
    refine WJ_tp 0 rfl (Rd_move rfl) rfl (hp _ _) ?_
    refine WJ_tp 1 rfl (Rd_move rfl) rfl (hp _ _) ?_
    refine WJ_tp 2 rfl (Rd_gtrN (j := 0) rfl rfl) rfl (hp _ _) ?_
    refine WJ_tp 3 rfl (Rd_move rfl) rfl (hp _ _) ?_
    refine WJ_bool 19 rfl (fun hg10 => ?_) (fun hg10 => ?_)
    ·try simp only [dz, ne_eq] at hg10
     refine WJ_tp 4 rfl (Rd_move rfl) rfl (hp _ _) ?_
     refine WJ_tp 5 rfl (Rd_move rfl) rfl (hp _ _) ?_
     refine WJ_tp 6 rfl (Rd_index (j) rfl rfl ud99 sz25 (hj := by omega)) rfl (hp _ _) ?_
     refine WJ_tk 7 (Rd_load_arr (i := j) (j := 0) rfl tk25 (hl := getA (l := w) (by omega))) hp ?_ rfl (by kernel_rfl) rfl rfl rfl
     refine WJ_tp 8 rfl (Rd_move rfl) rfl (hp _ _) ?_
     refine WJ_tp 9 rfl (Rd_move rfl) rfl (hp _ _) ?_
     refine WJ_tp 10 rfl (Rd_subN (j := 1) rfl rfl) rfl (hp _ _) ?_
     refine WJ_tp 11 rfl (Rd_index (j - 1) rfl rfl ud99 sz25 (hj := by omega)) rfl (hp _ _) ?_
     refine WJ_tk 12 (Rd_load_arr (i := j - 1) (j := 0) rfl tk25 (hl := getA (l := w) (by omega))) hp ?_ rfl (by kernel_rfl) rfl rfl rfl
     refine WJ_all (rs := [13]) (by kernel_rfl) rfl ?_
     refine WI_one ?_
     refine WI_ac rfl (Ac_call cf84 rfl (hs := lessW_ct (x := w.getD j 0#32) (y := w.getD (j - 1) 0#32))) rfl rfl rfl rfl ?_
     rintro _ _ ⟨⟨⟩, rfl, hA⟩
     simp only [List.cons_append, List.nil_append] at hA
     replace hA := hA.symm
     subst hA
     refine ⟨(fun _ => subA), ?_⟩
     refine WJ_tp 14 rfl (Rd_pickT rfl rfl) rfl (hp _ _) ?_
     refine WJ_done (by kernel_rfl) ?_
     refine Ps_next hK9 ?_
     refine WC_cond rfl (fun hc1 => ?_) (fun hc1 => ?_)
     ·try simp only [dz, ne_eq] at hc1
      have hlt : vA w j < vA w (j - 1) := by unfold vA; first | assumption | simp_all
      refine WC_skip ?_
      refine Ps_next hK8 ?_
      refine WC_seq fun K11 hK11 => ?_
      refine WC_block ?_
      refine WC_drawA mix (fun i => ([2, 2, 2, 2, 2, 2, 2, 2, 2, 2, 2, 2, 2, 2, 2, 0, 2, 0] : List Nat).getD i 0) ?_
      refine WJ_tp 0 rfl (Rd_move rfl) rfl (hp _ _) ?_
      refine WJ_tp 1 rfl (Rd_move rfl) rfl (hp _ _) ?_
      refine WJ_tp 2 rfl (Rd_move rfl) rfl (hp _ _) ?_
      refine WJ_tp 3 rfl (Rd_move rfl) rfl (hp _ _) ?_
      refine WJ_tp 4 rfl (Rd_subN (j := 1) rfl rfl) rfl (hp _ _) ?_
      refine WJ_tp 5 rfl (Rd_move rfl) rfl (hp _ _) ?_
      refine WJ_tp 6 rfl (Rd_move rfl) rfl (hp _ _) ?_
      refine WJ_tp 7 rfl (Rd_subN (j := 1) rfl rfl) rfl (hp _ _) ?_
      refine WJ_tp 8 rfl (Rd_index (j - 1) rfl rfl ud99 sz25 (hj := by omega)) rfl (hp _ _) ?_
      refine WJ_tk 9 (Rd_load_arr (i := j - 1) (j := 0) rfl tk25 (hl := getA (l := w) (by omega))) hp ?_ rfl (by kernel_rfl) rfl rfl rfl
      refine WJ_tp 10 rfl (Rd_move rfl) rfl (hp _ _) ?_
      refine WJ_tp 11 rfl (Rd_move rfl) rfl (hp _ _) ?_
      refine WJ_tp 12 rfl (Rd_index (j) rfl rfl ud99 sz25 (hj := by omega)) rfl (hp _ _) ?_
      refine WJ_tk 13 (Rd_load_arr (i := j) (j := 0) rfl tk25 (hl := getA (l := w) (by omega))) hp ?_ rfl (by kernel_rfl) rfl rfl rfl
      refine WJ_tp 14 rfl (Rd_index (j) rfl rfl ud99 sz25 (hj := by omega)) rfl (hp _ _) ?_
      refine WJ_all (rs := [15]) (by kernel_rfl) rfl ?_
      refine WI_one ?_
      refine WI_ac0 rfl (Ac_store_arr (w.getD (j - 1) 0#32) rfl rfl sz25 (i := j) (j := 0) (hl := getA (l := w) (by omega))) rfl rfl rfl ?_
      rintro _ _ rfl
      refine ⟨(fun h => by cases h), ?_⟩
      refine WJ_tp 16 rfl (Rd_index (j - 1) rfl rfl ud99 sz25 (hj := by omega)) rfl (hp _ _) ?_
      refine WJ_all (rs := [17]) (by kernel_rfl) rfl ?_
      refine WI_one ?_
      refine WI_ac0 rfl (Ac_store_arr (w.getD j 0#32) rfl rfl sz25 (i := j - 1) (j := 0) (hl := getA (by rw [List.length_set]; omega))) rfl rfl rfl ?_
      rintro _ _ rfl
      refine ⟨(fun h => by cases h), ?_⟩
      refine WJ_done (by kernel_rfl) ?_
      refine Ps_next hK11 ?_
      refine WC_region ?_
      refine WL_r (Rd_move rfl) rfl ?_
      rw [show (w.set j (w.getD (j - 1) 0#32)).set (j - 1) (w.getD j 0#32) = swA w j (j - 1) from rfl]
      refine WL_r (Rd_subN (j := 1) rfl rfl) rfl ?_
      refine WL_r (Rd_assign rfl) rfl ?_
      refine WL_nil ?_
      refine Ps_wkA (hK7 ⟨j - 1, swA w j (j - 1)⟩ (⟨by (try dsimp only); omega, (swA_perm (by omega) (by omega) (by omega)).trans hpw, ordE_step (by omega) (by omega) (by omega) hlt hoe, by (try dsimp only); rw [swA_len]; exact hwl⟩) (by (try dsimp only); omega))
     ·try simp only [dz, ne_eq] at hc1
      have hend : j = 0 ∨ vA w (j - 1) ≤ vA w j := by unfold vA; omega
      refine WC_exit ?_
      refine Ps_next hK5 ?_
      refine WC_region ?_
      refine WL_r (Rd_move rfl) rfl ?_
      refine WL_r (Rd_addN (j := 1) rfl rfl) rfl ?_
      refine WL_r (Rd_assign rfl) rfl ?_
      refine WL_nil ?_
      refine Ps_wkA (hK2 ⟨i + 1, w⟩ (⟨by (try dsimp only); omega, hpw, ordE_end hend hoe, hwl⟩) (by (try dsimp only); omega))
    ·try simp only [dz, ne_eq] at hg10
     refine WJ_skip 4 rfl (by kernel_rfl) rfl rfl rfl (hp _ _) ?_
     refine WJ_skip 5 rfl (by kernel_rfl) rfl rfl rfl (hp _ _) ?_
     refine WJ_skip 6 rfl (by kernel_rfl) rfl rfl rfl (hp _ _) ?_
     refine WJ_skip 7 rfl (by kernel_rfl) rfl rfl rfl (hp _ _) ?_
     refine WJ_skip 8 rfl (by kernel_rfl) rfl rfl rfl (hp _ _) ?_
     refine WJ_skip 9 rfl (by kernel_rfl) rfl rfl rfl (hp _ _) ?_
     refine WJ_skip 10 rfl (by kernel_rfl) rfl rfl rfl (hp _ _) ?_
     refine WJ_skip 11 rfl (by kernel_rfl) rfl rfl rfl (hp _ _) ?_
     refine WJ_skip 12 rfl (by kernel_rfl) rfl rfl rfl (hp _ _) ?_
     refine WJ_all (rs := [13]) (by kernel_rfl) rfl ?_
     refine WI_one ?_
     refine WI_skip rfl rfl rfl rfl (fun _ => subA) ?_
     refine WJ_tp 14 rfl (Rd_pickF rfl rfl) rfl (hp _ _) ?_
     refine WJ_done (by kernel_rfl) ?_
     refine Ps_next hK9 ?_
     refine WC_condF rfl ?_
     have hend : j = 0 ∨ vA w (j - 1) ≤ vA w j := by unfold vA; omega
     refine WC_exit ?_
     refine Ps_next hK5 ?_
     refine WC_region ?_
     refine WL_r (Rd_move rfl) rfl ?_
     refine WL_r (Rd_addN (j := 1) rfl rfl) rfl ?_
     refine WL_r (Rd_assign rfl) rfl ?_
     refine WL_nil ?_
     refine Ps_wkA (hK2 ⟨i + 1, w⟩ (⟨by (try dsimp only); omega, hpw, ordE_end hend hoe, hwl⟩) (by (try dsimp only); omega))
  ·try simp only [dz, ne_eq] at hc0
   have hso := ordA_sorted hpm (fun p q h1 h2 => hod p q h1 (by omega))
   rw [hso]
   refine WC_exit ?_
   exact hnorm.go () (Rs0 rfl)
end Go.Proofs.Ytoakfknnaiapiaa
namespace Go.Proofs.Ytoakfknnaiapiaa
open Go.RowKit Go.SL Go.ShM Go.SvM Go.Proofs Go.Shelf Go.Sort Go.Lib
set_option maxHeartbeats 1000000
set_option maxRecDepth 20000
set_option linter.all false
theorem cf63 : cfn Try.prog 63 = true := by kernel_rfl
theorem cf66 : cfn Try.prog 66 = true := by kernel_rfl
theorem cf78 : cfn Try.prog 78 = true := by kernel_rfl
theorem ikd3_122 : ikd Try.prog 3 122 = some .u64 := by kernel_rfl
def lenL_ren : Go.Shelf.Ren := ⟨fun | 125 => 63 | 128 => 76 | 129 => 77 | n => n, fun | 3 => 3 | 4 => 4 | 5 => 5 | 9 => 9 | 46 => 122 | 51 => 25 | 53 => 135 | n => n, fun | n => n⟩
theorem lenL : Go.Proofs.Lays.n125 Try.prog lenL_ren := {
  mixed := by kernel_rfl
  f125 := Try.func63.trans (congrArg some (by kernel_rfl))
  f128 := Try.func76.trans (congrArg some (by kernel_rfl))
  f129 := Try.func77.trans (congrArg some (by kernel_rfl))
  t3 := Try.underlying3
  a3 := Try.isAgg3
  z3 := Try.sizeOf3
  v3 := Try.zeroValue3
  t4 := Try.underlying4
  a4 := Try.isAgg4
  z4 := Try.sizeOf4
  v4 := Try.zeroValue4
  t5 := Try.underlying5
  a5 := Try.isAgg5
  z5 := Try.sizeOf5
  v5 := Try.zeroValue5
  t9 := Try.underlying9
  a9 := Try.isAgg9
  z9 := Try.sizeOf9
  v9 := Try.zeroValue9
  t46 := Try.underlying122
  a46 := Try.isAgg122
  z46 := Try.sizeOf122
  v46 := Try.zeroValue122
  t51 := Try.underlying25
  a51 := Try.isAgg25
  z51 := Try.sizeOf25
  v51 := Try.zeroValue25
  t53 := Try.underlying135
  a53 := Try.isAgg135
  z53 := Try.sizeOf135
  v53 := Try.zeroValue135
}

theorem lenB_ct {n : Nat} (h : n ≤ 1000000) : Ct Try.prog 63 [.int .u64 (n : Int)] [] (fun _ : Unit => .int .i64 (Go.Lib.bitLen (n : Int).toNat)) (fun _ => []) :=
  ⟨fun F w hs => (Any.bits_Len lenL (n : Int) w (by omega) (by omega)).mono fun e w' q => ⟨(), q.1, by rw [q.2]; exact hs, by rw [q.2]; exact Kept.refl _⟩⟩

theorem pdq12_ct {a : Option Nat} {cap : Nat} {l : List B32} {lim : Int} (hn : l.length ≤ 12) : Ct Try.prog 66 [sl a l.length cap, .int .i64 0, .int .i64 ((l.length : Nat) : Int), .int .i64 lim] [arr a cap 1 25 (eU .u32 (w := 32)) l] (fun _ : Unit => .tuple #[]) (fun _ => [arr a cap 1 25 (eU .u32 (w := 32)) (l.mergeSort fun x y => decide (x.toNat ≤ y.toNat))]) := by
 refine Ct_body (n := 134) Try.func66 rfl rfl rfl fun F w0 Q hret hnorm hp => ?_
 change WC _ _ _ _ _ _ _ (_ :: F)
 refine WC_sr fun K1 hK1 => ?_
 refine WL_r (Rd_assign rfl) rfl ?_
 refine WL_end hK1 ?_
 refine WC_sr fun K2 hK2 => ?_
 refine WL_r (Rd_assign rfl) rfl ?_
 refine WL_end hK2 ?_
 refine WC_block ?_
 refine WC_loopK (σ := Nat) (fun i => [(1, .int .i64 0), (2, .int .i64 ((l.length : Nat) : Int)), (3, .int .i64 lim), (8, .bool true), (9, .bool true)]) (fun i => []) (fun i => i ≤ 0) (fun i => i) (0) [0] kpA (by (try dsimp only); repeat (first | with_reducible exact Gv.nil | (with_reducible apply Gv.cons; · (repeat (first | with_reducible exact Ext.here | with_reducible apply Ext.there))))) ?_ ?_ Sub.refl ?_
 ·exact Nat.le_refl _
 ·(try dsimp only); exact (Wk.cons lkA (Wk.cons lkA (Wk.cons lkA (Wk.cons lkA (Wk.cons lkA Wk.nil)))))
 ·rintro i hi K3 hK3
  simp only [List.cons_append, List.nil_append]
  refine WC_block ?_
  refine WC_sr fun K4 hK4 => ?_
  refine WL_r (Rd_move rfl) rfl ?_
  refine WL_r (Rd_move rfl) rfl ?_
  refine WL_r (Rd_sub' (r := ((l.length : Nat) : Int)) rfl rfl (wr64 (by omega) (by omega) (by omega))) rfl ?_
  refine WL_r (Rd_assign rfl) rfl ?_
  refine WL_end hK4 ?_
  refine WC_seq fun K5 hK5 => ?_
  refine WC_sr fun K6 hK6 => ?_
  refine WL_r (Rd_move rfl) rfl ?_
  refine WL_r (Rd_leqN (j := 12) rfl rfl) rfl ?_
  refine WL_end hK6 ?_
  refine WC_cond rfl (fun hc0 => ?_) (fun hc0 => ?_)
  ·try simp only [dz, ne_eq] at hc0
   refine WC_sr fun K7 hK7 => ?_
   refine WL_r (Rd_move rfl) rfl ?_
   refine WL_r (Rd_move rfl) rfl ?_
   refine WL_r (Rd_move rfl) rfl ?_
   refine WL_ac (Ac_call cf78 rfl (hs := insW_ct (a := a) (cap := cap) (l := l) (by omega))) rfl rfl rfl ?_
   rintro _ _ ⟨⟨⟩, rfl, hA⟩
   simp only [List.cons_append, List.nil_append] at hA
   replace hA := hA.symm
   subst hA
   refine WL_end hK7 ?_
   refine WC_ret ?_
   exact hret.go () (Rs0 rfl)
  ·try simp only [dz, ne_eq] at hc0
   omega

theorem sortW12_ct {a : Option Nat} {cap : Nat} {l : List B32} (hn : l.length ≤ 12) : Ct Try.prog 57 [sl a l.length cap] [arr a cap 1 25 (eU .u32 (w := 32)) l] (fun _ : Unit => .tuple #[]) (fun _ => [arr a cap 1 25 (eU .u32 (w := 32)) (l.mergeSort fun x y => decide (x.toNat ≤ y.toNat))]) := by
 refine Ct_body (n := 11) Try.func57 rfl rfl rfl fun F w0 Q hret hnorm hp => ?_
 change WC _ _ _ _ _ _ _ (_ :: F)
 refine WC_sr fun K1 hK1 => ?_
 refine WL_r (Rd_move rfl) rfl ?_
 refine WL_r (Rd_len rfl rfl ud99) rfl ?_
 refine WL_r (Rd_assign rfl) rfl ?_
 refine WL_end hK1 ?_
 refine WC_region ?_
 refine WL_r (Rd_move rfl) rfl ?_
 refine WL_r (Rd_move rfl) rfl ?_
 refine WL_r (Rd_move rfl) rfl ?_
 refine WL_r (Rd_conv rfl ikd3_122 (r := ((l.length : Nat) : Int)) (wrap_u64n (by omega))) rfl ?_
 refine WL_ac (Ac_call cf63 rfl (hs := lenB_ct (n := l.length) (by omega))) rfl rfl rfl ?_
 rintro _ _ ⟨⟨⟩, rfl, hA⟩
 simp only [List.cons_append, List.nil_append] at hA
 replace hA := hA.symm
 subst hA
 refine WL_ac (Ac_call cf66 rfl (hs := pdq12_ct (a := a) (cap := cap) (l := l) hn)) rfl rfl rfl ?_
 rintro _ _ ⟨⟨⟩, rfl, hA⟩
 simp only [List.cons_append, List.nil_append] at hA
 replace hA := hA.symm
 subst hA
 refine WL_nil ?_
 exact hnorm.go () (Rs0 rfl)

theorem sortW12 : SortW 12 := fun a cap l h => sortW12_ct (a := a) (cap := cap) h
end Go.Proofs.Ytoakfknnaiapiaa
namespace Go.Proofs.Ytoakfknnaiapiaa
open Go.RowKit Go.SL Go.ShM Go.SvM
set_option maxHeartbeats 1000000
set_option maxRecDepth 20000
set_option linter.all false

def x9 : Ix := ix1 9#8
def knA : Kp := ⟨x9, 3, [97#8, 98#8, 99#8, 100#8, 101#8, 102#8], [(1#32, 5)]⟩
def knB : Kp := ⟨x9, 3, [97#8, 98#8, 99#8, 100#8, 101#8, 102#8], [(1#32, 5), (2#32, 9)]⟩
def knC : Kp := ⟨x9, 3, [97#8, 98#8, 99#8, 100#8, 101#8, 102#8], [(2#32, 9)]⟩
def knL : Nat → List Kp
  | 0 => []
  | 1 => [knA]
  | 2 => [knA]
  | 3 => [knA]
  | _ => [knB]
def knK : Nat → Int
  | 0 => 2
  | 1 => 3
  | 2 => 4
  | _ => 2
theorem kn0 (ao : Option Addr) (cap : Nat) : callM 10 ⟨0, knL 0⟩ 0 (rqStore x9 3 ⟨[97#8, 98#8, 99#8, 100#8, 101#8, 102#8], ao, cap⟩ 1#32 5) = (⟨2, [], []⟩, 0, ⟨0, knL 1⟩) := by kernel_rfl
theorem kn1 (ao : Option Addr) (cap : Nat) : callM 10 ⟨0, knL 1⟩ 0 (rqStore x9 4 ⟨[49#8, 50#8, 51#8, 52#8, 53#8], ao, cap⟩ 1#32 5) = (⟨3, [], []⟩, 0, ⟨0, knL 2⟩) := by kernel_rfl
theorem kn2 (ao : Option Addr) (cap : Nat) : callM 10 ⟨0, knL 2⟩ 0 (rqStore x9 3 ⟨[65#8, 66#8, 67#8, 68#8, 69#8, 70#8], ao, cap⟩ 1#32 5) = (⟨4, [], []⟩, 0, ⟨0, knL 3⟩) := by kernel_rfl
theorem kn3 (ao : Option Addr) (cap : Nat) : callM 10 ⟨0, knL 3⟩ 0 (rqStore x9 3 ⟨[97#8, 98#8, 99#8, 100#8, 101#8, 102#8], ao, cap⟩ 2#32 9) = (⟨2, [], []⟩, 0, ⟨0, knL 4⟩) := by kernel_rfl
theorem kn4 (ao : Option Addr) (cap : Nat) : callM 10 ⟨0, knL 4⟩ 0 (rqStore x9 3 ⟨[97#8, 98#8, 99#8, 100#8, 101#8, 102#8], ao, cap⟩ 1#32 4) = (⟨2, [], []⟩, 0, ⟨0, knL 5⟩) := by kernel_rfl
theorem kn5 : callM 10 ⟨0, [knB]⟩ 6 (rqHave x9) = (⟨1, [3], []⟩, 0, ⟨6, [knC]⟩) := by kernel_rfl
theorem kn6 : callM 10 ⟨6, [knC]⟩ 6 (rqRel x9 1#32) = (⟨1, [], []⟩, 0, ⟨6, [knC]⟩) := by kernel_rfl
theorem kn7 : callM 10 ⟨6, [knC]⟩ 6 (rqRel x9 2#32) = (⟨1, [3], []⟩, 0, ⟨6, []⟩) := by kernel_rfl
theorem kn8 (ao : Option Addr) (cap : Nat) : callM 10 ⟨6, []⟩ 6 (rqStore x9 3 ⟨[97#8, 98#8, 99#8, 100#8, 101#8, 102#8], ao, cap⟩ 1#32 5) = (⟨7, [], []⟩, 0, ⟨6, []⟩) := by kernel_rfl
theorem kn9 : callM 10 ⟨6, []⟩ 6 (rqFetch x9 0 0 131073) = (⟨7, [], []⟩, 0, ⟨6, []⟩) := by kernel_rfl
theorem kn10 : callM 10 ⟨6, []⟩ 5 (rqHave x9) = (⟨0, [], []⟩, 191, ⟨6, []⟩) := by kernel_rfl
theorem knWA : Wf 10 ⟨0, [knA]⟩ := by
  have h := Wf.call (t := 0) (r := rqStore x9 3 ⟨[97#8, 98#8, 99#8, 100#8, 101#8, 102#8], none, 0⟩ 1#32 5) (Wf_new (room := 10) (by omega))
  rw [show callM 10 ⟨0, []⟩ 0 _ = _ from kn0 none 0] at h
  exact h
theorem knWB : Wf 10 ⟨0, [knB]⟩ := by
  have h := Wf.call (t := 0) (r := rqStore x9 3 ⟨[97#8, 98#8, 99#8, 100#8, 101#8, 102#8], none, 0⟩ 2#32 9) knWA
  rw [show callM 10 ⟨0, [knA]⟩ 0 _ = _ from kn3 none 0] at h
  exact h
theorem knWL : ∀ i, Wf 10 ⟨0, knL i⟩
  | 0 => Wf_new (by omega)
  | 1 => knWA
  | 2 => knWA
  | 3 => knWA
  | _ + 4 => knWB
theorem knWC : Wf 10 ⟨6, [knC]⟩ := by
  have h := Wf.call (t := 6) (r := rqHave x9) knWB
  rw [kn5] at h
  exact h
theorem knWD : Wf 10 ⟨6, []⟩ := by
  have h := Wf.call (t := 6) (r := rqRel x9 2#32) knWC
  rw [kn7] at h
  exact h
theorem knLoad : ¬ Wf 9 ⟨0, [(⟨x9, 0, [], []⟩ : Kp)]⟩ := fun h => by
  have := h.ls _ (List.mem_singleton.2 rfl)
  simp at this
end Go.Proofs.Ytoakfknnaiapiaa
namespace Go.Proofs.Ytoakfknnaiapiaa
open Go.RowKit Go.SL Go.ShM Go.SvM
set_option maxHeartbeats 1000000
set_option maxRecDepth 20000
set_option linter.all false

def knRq (b33 b40 b44 : Nat) : List Rq := [rqStore x9 3 ⟨[97#8, 98#8, 99#8, 100#8, 101#8, 102#8], some ⟨b33, 0, none⟩, 6⟩ 1#32 5, rqStore x9 4 ⟨[49#8, 50#8, 51#8, 52#8, 53#8], some ⟨b40, 0, none⟩, 5⟩ 1#32 5, rqStore x9 3 ⟨[65#8, 66#8, 67#8, 68#8, 69#8, 70#8], some ⟨b44, 0, none⟩, 6⟩ 1#32 5, rqStore x9 3 ⟨[97#8, 98#8, 99#8, 100#8, 101#8, 102#8], some ⟨b33, 0, none⟩, 6⟩ 2#32 9, rqStore x9 3 ⟨[97#8, 98#8, 99#8, 100#8, 101#8, 102#8], some ⟨b33, 0, none⟩, 6⟩ 1#32 4]
theorem knStep (b33 b40 b44 i : Nat) (h : i < 5) : ∃ r, (knRq b33 b40 b44)[i]? = some r ∧ callM 10 ⟨0, knL i⟩ 0 r = (⟨knK i, [], []⟩, 0, ⟨0, knL (i + 1)⟩) ∧ Sv [(sep [frA b33 6 1 5 (eU .u8 (w := 8)) [97#8, 98#8, 99#8, 100#8, 101#8, 102#8], frA b40 5 1 5 (eU .u8 (w := 8)) [49#8, 50#8, 51#8, 52#8, 53#8], frA b44 6 1 5 (eU .u8 (w := 8)) [65#8, 66#8, 67#8, 68#8, 69#8, 70#8]])] r.b.v 1 (eU .u8 (w := 8)) r.b.l r.b.ao r.b.cap := by
  have hp : Sv [(sep [frA b33 6 1 5 (eU .u8 (w := 8)) [97#8, 98#8, 99#8, 100#8, 101#8, 102#8], frA b40 5 1 5 (eU .u8 (w := 8)) [49#8, 50#8, 51#8, 52#8, 53#8], frA b44 6 1 5 (eU .u8 (w := 8)) [65#8, 66#8, 67#8, 68#8, 69#8, 70#8]])] (⟨[97#8, 98#8, 99#8, 100#8, 101#8, 102#8], some ⟨b33, 0, none⟩, 6⟩ : Pt).v 1 (eU .u8 (w := 8)) [97#8, 98#8, 99#8, 100#8, 101#8, 102#8] (some ⟨b33, 0, none⟩) 6 := (Sv_fr (b := b33) (cap := 6) (T := 5) (encU .u8 (w := 8)) (l := [97#8, 98#8, 99#8, 100#8, 101#8, 102#8]) (Nat.le_refl 6)).pk hasA
  have hq : Sv [(sep [frA b33 6 1 5 (eU .u8 (w := 8)) [97#8, 98#8, 99#8, 100#8, 101#8, 102#8], frA b40 5 1 5 (eU .u8 (w := 8)) [49#8, 50#8, 51#8, 52#8, 53#8], frA b44 6 1 5 (eU .u8 (w := 8)) [65#8, 66#8, 67#8, 68#8, 69#8, 70#8]])] (⟨[49#8, 50#8, 51#8, 52#8, 53#8], some ⟨b40, 0, none⟩, 5⟩ : Pt).v 1 (eU .u8 (w := 8)) [49#8, 50#8, 51#8, 52#8, 53#8] (some ⟨b40, 0, none⟩) 5 := (Sv_fr (b := b40) (cap := 5) (T := 5) (encU .u8 (w := 8)) (l := [49#8, 50#8, 51#8, 52#8, 53#8]) (Nat.le_refl 5)).pk hasA
  have hr : Sv [(sep [frA b33 6 1 5 (eU .u8 (w := 8)) [97#8, 98#8, 99#8, 100#8, 101#8, 102#8], frA b40 5 1 5 (eU .u8 (w := 8)) [49#8, 50#8, 51#8, 52#8, 53#8], frA b44 6 1 5 (eU .u8 (w := 8)) [65#8, 66#8, 67#8, 68#8, 69#8, 70#8]])] (⟨[65#8, 66#8, 67#8, 68#8, 69#8, 70#8], some ⟨b44, 0, none⟩, 6⟩ : Pt).v 1 (eU .u8 (w := 8)) [65#8, 66#8, 67#8, 68#8, 69#8, 70#8] (some ⟨b44, 0, none⟩) 6 := (Sv_fr (b := b44) (cap := 6) (T := 5) (encU .u8 (w := 8)) (l := [65#8, 66#8, 67#8, 68#8, 69#8, 70#8]) (Nat.le_refl 6)).pk hasA
  match i, h with
  | 0, _ => exact ⟨_, rfl, kn0 _ _, hp⟩
  | 1, _ => exact ⟨_, rfl, kn1 _ _, hq⟩
  | 2, _ => exact ⟨_, rfl, kn2 _ _, hr⟩
  | 3, _ => exact ⟨_, rfl, kn3 _ _, hp⟩
  | 4, _ => exact ⟨_, rfl, kn4 _ _, hp⟩
end Go.Proofs.Ytoakfknnaiapiaa
namespace Go.Proofs.Ytoakfknnaiapiaa
open Go.RowKit Go.SL Go.ShM Go.SvM
set_option maxHeartbeats 1000000
set_option maxRecDepth 20000
set_option linter.all false
theorem cf102 : cfn Try.prog 102 = true := by kernel_rfl
theorem cf103 : cfn Try.prog 103 = true := by kernel_rfl
theorem cf110 : cfn Try.prog 110 = true := by kernel_rfl
theorem insR_ct {ga cap n a b : Nat} {l : List B32} (hl : l.length = n) (hn : n ≤ 1000) (hab : a ≤ b) (hb : b ≤ n) : Ct Try.prog 78 [sl (some ga) n cap, .int .i64 ((a : Nat) : Int), .int .i64 ((b : Nat) : Int)] [arr (some ga) cap 1 25 (eU .u32 (w := 32)) l] (fun g : {m : List B32 // SwR a b l m ∧ ordS m a b} => .tuple #[]) (fun g => [arr (some ga) cap 1 25 (eU .u32 (w := 32)) g.1]) := by
 refine Ct_body (n := 49) Try.func78 rfl rfl rfl fun F w0 Q hret hnorm hp => ?_
 change WC _ _ _ _ _ _ _ (_ :: F)
 refine WC_sr fun K1 hK1 => ?_
 refine WL_r (Rd_move rfl) rfl ?_
 refine WL_r (Rd_addN (j := 1) rfl rfl) rfl ?_
 refine WL_r (Rd_assign rfl) rfl ?_
 refine WL_end hK1 ?_
 refine WC_block ?_
 refine WC_loopK (σ := Nat × (List B32)) (fun ⟨i, m⟩ => [(6, .int .i64 ((i : Nat) : Int))]) (fun ⟨i, m⟩ => [arr (some ga) cap 1 25 (eU .u32 (w := 32)) m]) (fun ⟨i, m⟩ => a + 1 ≤ i ∧ SwR a b l m ∧ ordS m a i ∧ m.length = n) (fun ⟨i, m⟩ => b - i) ⟨a + 1, l⟩ [0, 1, 2] kpA (by (try dsimp only); repeat (first | with_reducible exact Gv.nil | (with_reducible apply Gv.cons; · (repeat (first | with_reducible exact Ext.here | with_reducible apply Ext.there))))) ?_ ?_ Sub.refl ?_
 ·exact ⟨Nat.le_refl _, .refl, fun p q h0 h1 h2 => by omega, hl⟩
 ·(try dsimp only); exact (Wk.cons lkA Wk.nil)
 ·rintro ⟨i, m⟩ ⟨hi, hsw, hod, hml⟩ K2 hK2
  simp only [List.cons_append, List.nil_append]
  refine WC_seq fun K3 hK3 => ?_
  refine WC_sr fun K4 hK4 => ?_
  refine WL_r (Rd_move rfl) rfl ?_
  refine WL_r (Rd_move rfl) rfl ?_
  refine WL_r (Rd_lssN rfl rfl) rfl ?_
  refine WL_end hK4 ?_
  refine WC_cond rfl (fun hc0 => ?_) (fun hc0 => ?_)
  ·try simp only [dz, ne_eq] at hc0
   refine WC_skip ?_
   refine Ps_next hK3 ?_
   refine WC_seq fun K5 hK5 => ?_
   refine WC_block ?_
   refine WC_sr fun K6 hK6 => ?_
   refine WL_r (Rd_move rfl) rfl ?_
   refine WL_r (Rd_assign rfl) rfl ?_
   refine WL_end hK6 ?_
   refine WC_block ?_
   refine WC_loopK (σ := Nat × (List B32)) (fun ⟨j, w⟩ => [(7, .int .i64 ((j : Nat) : Int))]) (fun ⟨j, w⟩ => [arr (some ga) cap 1 25 (eU .u32 (w := 32)) w]) (fun ⟨j, w⟩ => (a ≤ j ∧ j ≤ i) ∧ SwR a b l w ∧ ordF w a (i + 1) j ∧ w.length = n) (fun ⟨j, w⟩ => j) ⟨i, m⟩ [0, 1, 2, 6, 10, 11, 12, 13, 14, 15] kpA (by (try dsimp only); repeat (first | with_reducible exact Gv.nil | (with_reducible apply Gv.cons; · (repeat (first | with_reducible exact Ext.here | with_reducible apply Ext.there))))) ?_ ?_ Sub.refl ?_
   ·exact ⟨by omega, hsw, ordF_of hod, hml⟩
   ·(try dsimp only); exact (Wk.cons lkA Wk.nil)
   ·rintro ⟨j, w⟩ ⟨hj, hsw2, hof, hwl⟩ K7 hK7
    simp only [List.cons_append, List.nil_append]
    refine WC_seq fun K8 hK8 => ?_
    refine WC_seq fun K9 hK9 => ?_
    refine WC_draw mix [arr (some ga) cap 1 25 (eU .u32 (w := 32)) w] (fun i => ([2, 2, 2, 2, 2, 2, 2, 2, 2, 2, 2, 2, 2, 1, 2] : List Nat).getD i 0) ?_
    refine WJ_tp 0 rfl (Rd_move rfl) rfl (hp _ _) ?_
    refine WJ_tp 1 rfl (Rd_move rfl) rfl (hp _ _) ?_
    refine WJ_tp 2 rfl (Rd_gtrN rfl rfl) rfl (hp _ _) ?_
    refine WJ_tp 3 rfl (Rd_move rfl) rfl (hp _ _) ?_
    refine WJ_bool 19 rfl (fun hg10 => ?_) (fun hg10 => ?_)
    ·try simp only [dz, ne_eq] at hg10
     refine WJ_tp 4 rfl (Rd_move rfl) rfl (hp _ _) ?_
     refine WJ_tp 5 rfl (Rd_move rfl) rfl (hp _ _) ?_
     refine WJ_tp 6 rfl (Rd_index (j) rfl rfl ud99 sz25 (hj := by omega)) rfl (hp _ _) ?_
     refine WJ_tk 7 (Rd_load_arr (i := j) (j := 0) rfl tk25 (hl := getA (l := w) (by omega))) hp ?_ rfl (by kernel_rfl) rfl rfl rfl
     refine WJ_tp 8 rfl (Rd_move rfl) rfl (hp _ _) ?_
     refine WJ_tp 9 rfl (Rd_move rfl) rfl (hp _ _) ?_
     refine WJ_tp 10 rfl (Rd_subN (j := 1) rfl rfl) rfl (hp _ _) ?_
     refine WJ_tp 11 rfl (Rd_index (j - 1) rfl rfl ud99 sz25 (hj := by omega)) rfl (hp _ _) ?_
     refine WJ_tk 12 (Rd_load_arr (i := j - 1) (j := 0) rfl tk25 (hl := getA (l := w) (by omega))) hp ?_ rfl (by kernel_rfl) rfl rfl rfl
     refine WJ_all (rs := [13]) (by kernel_rfl) rfl ?_
     refine WI_one ?_
     refine WI_ac rfl (Ac_call cf84 rfl (hs := lessW_ct (x := w.getD (j) 0#32) (y := w.getD (j - 1) 0#32))) rfl rfl rfl rfl ?_
     rintro _ _ ⟨⟨⟩, rfl, hA⟩
     simp only [List.cons_append, List.nil_append] at hA
     replace hA := hA.symm
     subst hA
     refine ⟨(fun _ => subA), ?_⟩
     refine WJ_tp 14 rfl (Rd_pickT rfl rfl) rfl (hp _ _) ?_
     refine WJ_done (by kernel_rfl) ?_
     refine Ps_next hK9 ?_
     refine WC_cond rfl (fun hc1 => ?_) (fun hc1 => ?_)
     ·try simp only [dz, ne_eq] at hc1
      have hlt : vA w j < vA w (j - 1) := by unfold vA at *; first | assumption | omega | (simp_all; done) | (simp_all; omega)
      refine WC_skip ?_
      refine Ps_next hK8 ?_
      refine WC_seq fun K11 hK11 => ?_
      refine WC_block ?_
      refine WC_drawA mix (fun i => ([2, 2, 2, 2, 2, 2, 2, 2, 2, 2, 2, 2, 2, 2, 2, 0, 2, 0] : List Nat).getD i 0) ?_
      refine WJ_tp 0 rfl (Rd_move rfl) rfl (hp _ _) ?_
      refine WJ_tp 1 rfl (Rd_move rfl) rfl (hp _ _) ?_
      refine WJ_tp 2 rfl (Rd_move rfl) rfl (hp _ _) ?_
      refine WJ_tp 3 rfl (Rd_move rfl) rfl (hp _ _) ?_
      refine WJ_tp 4 rfl (Rd_subN (j := 1) rfl rfl) rfl (hp _ _) ?_
      refine WJ_tp 5 rfl (Rd_move rfl) rfl (hp _ _) ?_
      refine WJ_tp 6 rfl (Rd_move rfl) rfl (hp _ _) ?_
      refine WJ_tp 7 rfl (Rd_subN (j := 1) rfl rfl) rfl (hp _ _) ?_
      refine WJ_tp 8 rfl (Rd_index (j - 1) rfl rfl ud99 sz25 (hj := by omega)) rfl (hp _ _) ?_
      refine WJ_tk 9 (Rd_load_arr (i := j - 1) (j := 0) rfl tk25 (hl := getA (l := w) (by omega))) hp ?_ rfl (by kernel_rfl) rfl rfl rfl
      refine WJ_tp 10 rfl (Rd_move rfl) rfl (hp _ _) ?_
      refine WJ_tp 11 rfl (Rd_move rfl) rfl (hp _ _) ?_
      refine WJ_tp 12 rfl (Rd_index (j) rfl rfl ud99 sz25 (hj := by omega)) rfl (hp _ _) ?_
      refine WJ_tk 13 (Rd_load_arr (i := j) (j := 0) rfl tk25 (hl := getA (l := w) (by omega))) hp ?_ rfl (by kernel_rfl) rfl rfl rfl
      refine WJ_tp 14 rfl (Rd_index (j) rfl rfl ud99 sz25 (hj := by omega)) rfl (hp _ _) ?_
      refine WJ_all (rs := [15]) (by kernel_rfl) rfl ?_
      refine WI_one ?_
      refine WI_ac0 rfl (Ac_store_arr (w.getD (j - 1) 0#32) rfl rfl sz25 (i := j) (j := 0) (hl := getA (l := w) (by omega))) rfl rfl rfl ?_
      rintro _ _ rfl
      refine ⟨(fun h => by cases h), ?_⟩
      refine WJ_tp 16 rfl (Rd_index (j - 1) rfl rfl ud99 sz25 (hj := by omega)) rfl (hp _ _) ?_
      refine WJ_all (rs := [17]) (by kernel_rfl) rfl ?_
      refine WI_one ?_
      refine WI_ac0 rfl (Ac_store_arr (w.getD (j) 0#32) rfl rfl sz25 (i := j - 1) (j := 0) (hl := getA (by rw [List.length_set]; omega))) rfl rfl rfl ?_
      rintro _ _ rfl
      refine ⟨(fun h => by cases h), ?_⟩
      refine WJ_done (by kernel_rfl) ?_
      refine Ps_next hK11 ?_
      refine WC_region ?_
      refine WL_r (Rd_move rfl) rfl ?_
      rw [show (w.set (j) (w.getD (j - 1) 0#32)).set (j - 1) (w.getD (j) 0#32) = swA w (j) (j - 1) from rfl]
      refine WL_r (Rd_subN (j := 1) rfl rfl) rfl ?_
      refine WL_r (Rd_assign rfl) rfl ?_
      refine WL_nil ?_
      refine Ps_wkA (hK7 ⟨j - 1, swA w j (j - 1)⟩ (⟨by (try dsimp only); omega, .step hsw2 (by omega) (by omega) (by omega) (by omega), ordF_step (by omega) (by omega) (by omega) hlt hof, by (try dsimp only); rw [swA_len]; exact hwl⟩) (by (try dsimp only); omega))
     ·try simp only [dz, ne_eq] at hc1
      have hend : j ≤ a ∨ vA w (j - 1) ≤ vA w j := by unfold vA at *; first | assumption | omega | (simp_all; done) | (simp_all; omega)
      refine WC_exit ?_
      refine Ps_next hK5 ?_
      refine WC_region ?_
      refine WL_r (Rd_move rfl) rfl ?_
      refine WL_r (Rd_addN (j := 1) rfl rfl) rfl ?_
      refine WL_r (Rd_assign rfl) rfl ?_
      refine WL_nil ?_
      refine Ps_wkA (hK2 ⟨i + 1, w⟩ (⟨by (try dsimp only); omega, hsw2, ordF_end hend hof, hwl⟩) (by (try dsimp only); omega))
    ·try simp only [dz, ne_eq] at hg10
     refine WJ_skip 4 rfl (by kernel_rfl) rfl rfl rfl (hp _ _) ?_
     refine WJ_skip 5 rfl (by kernel_rfl) rfl rfl rfl (hp _ _) ?_
     refine WJ_skip 6 rfl (by kernel_rfl) rfl rfl rfl (hp _ _) ?_
     refine WJ_skip 7 rfl (by kernel_rfl) rfl rfl rfl (hp _ _) ?_
     refine WJ_skip 8 rfl (by kernel_rfl) rfl rfl rfl (hp _ _) ?_
     refine WJ_skip 9 rfl (by kernel_rfl) rfl rfl rfl (hp _ _) ?_
     refine WJ_skip 10 rfl (by kernel_rfl) rfl rfl rfl (hp _ _) ?_
     refine WJ_skip 11 rfl (by kernel_rfl) rfl rfl rfl (hp _ _) ?_
     refine WJ_skip 12 rfl (by kernel_rfl) rfl rfl rfl (hp _ _) ?_
     refine WJ_all (rs := [13]) (by kernel_rfl) rfl ?_
     refine WI_one ?_
     refine WI_skip rfl rfl rfl rfl (fun _ => subA) ?_
     refine WJ_tp 14 rfl (Rd_pickF rfl rfl) rfl (hp _ _) ?_
     refine WJ_done (by kernel_rfl) ?_
     refine Ps_next hK9 ?_
     refine WC_condF rfl ?_
     have hend : j ≤ a ∨ vA w (j - 1) ≤ vA w j := by unfold vA at *; first | assumption | omega | (simp_all; done) | (simp_all; omega)
     refine WC_exit ?_
     refine Ps_next hK5 ?_
     refine WC_region ?_
     refine WL_r (Rd_move rfl) rfl ?_
     refine WL_r (Rd_addN (j := 1) rfl rfl) rfl ?_
     refine WL_r (Rd_assign rfl) rfl ?_
     refine WL_nil ?_
     refine Ps_wkA (hK2 ⟨i + 1, w⟩ (⟨by (try dsimp only); omega, hsw2, ordF_end hend hof, hwl⟩) (by (try dsimp only); omega))
  ·try simp only [dz, ne_eq] at hc0
   refine WC_exit ?_
   exact hnorm.go ⟨m, hsw, fun p q h0 h1 h2 => hod p q h0 h1 (by omega)⟩ (Rs0 rfl)

theorem ord2_ct {ga cap n a b : Nat} {l : List B32} {c s : Nat} (hl : l.length = n) (hn : n ≤ 1000) (ha : a < n) (hb : b < n) (hs : s ≤ 1000) : Ct Try.prog 110 [sl (some ga) n cap, .int .i64 ((a : Nat) : Int), .int .i64 ((b : Nat) : Int), .pointer (some ⟨c, 0, none⟩)] [arr (some ga) cap 1 25 (eU .u32 (w := 32)) l, cl c 3 [.int .i64 ((s : Nat) : Int)]] (fun g : {q : Nat × Nat × Nat // ((q.1 = a ∧ q.2.1 = b) ∨ (q.1 = b ∧ q.2.1 = a)) ∧ q.2.2 ≤ s + 1} => .tuple #[.int .i64 ((g.1.1 : Nat) : Int), .int .i64 ((g.1.2.1 : Nat) : Int)]) (fun g => [arr (some ga) cap 1 25 (eU .u32 (w := 32)) l, cl c 3 [.int .i64 ((g.1.2.2 : Nat) : Int)]]) := by
 refine Ct_body (n := 28) Try.func110 rfl rfl rfl fun F w0 Q hret hnorm hp => ?_
 change WC _ _ _ _ _ _ _ (_ :: _ :: F)
 refine WC_sr fun K1 hK1 => ?_
 refine WL_r (Rd_assign rfl) rfl ?_
 refine WL_r (Rd_assign rfl) rfl ?_
 refine WL_end hK1 ?_
 refine WC_seq fun K2 hK2 => ?_
 refine WC_seq fun K3 hK3 => ?_
 refine WC_draw mix [arr (some ga) cap 1 25 (eU .u32 (w := 32)) l] (fun i => ([2, 2, 2, 2, 2, 2, 2, 2, 1] : List Nat).getD i 0) ?_
 refine WJ_tp 0 rfl (Rd_move rfl) rfl (hp _ _) ?_
 refine WJ_tp 1 rfl (Rd_move rfl) rfl (hp _ _) ?_
 refine WJ_tp 2 rfl (Rd_index (b) rfl rfl ud99 sz25 (hj := by omega)) rfl (hp _ _) ?_
 refine WJ_tk 3 (Rd_load_arr (i := b) (j := 0) rfl tk25 (hl := getA (l := l) (by omega))) hp ?_ rfl (by kernel_rfl) rfl rfl rfl
 refine WJ_tp 4 rfl (Rd_move rfl) rfl (hp _ _) ?_
 refine WJ_tp 5 rfl (Rd_move rfl) rfl (hp _ _) ?_
 refine WJ_tp 6 rfl (Rd_index (a) rfl rfl ud99 sz25 (hj := by omega)) rfl (hp _ _) ?_
 refine WJ_tk 7 (Rd_load_arr (i := a) (j := 0) rfl tk25 (hl := getA (l := l) (by omega))) hp ?_ rfl (by kernel_rfl) rfl rfl rfl
 refine WJ_all (rs := [8]) (by kernel_rfl) rfl ?_
 refine WI_one ?_
 refine WI_ac rfl (Ac_call cf84 rfl (hs := lessW_ct (x := l.getD (b) 0#32) (y := l.getD (a) 0#32))) rfl rfl rfl rfl ?_
 rintro _ _ ⟨⟨⟩, rfl, hA⟩
 simp only [List.cons_append, List.nil_append] at hA
 replace hA := hA.symm
 subst hA
 refine ⟨(fun _ => subA), ?_⟩
 refine WJ_done (by kernel_rfl) ?_
 refine Ps_next hK3 ?_
 refine WC_cond rfl (fun hc0 => ?_) (fun hc0 => ?_)
 ·try simp only [dz, ne_eq] at hc0
  refine WC_sr fun K4 hK4 => ?_
  refine WL_r (Rd_move rfl) rfl ?_
  refine WL_r (Rd_nilCheck rfl) rfl ?_
  refine WL_r (Rd_load rfl tk3 (v := .int .i64 ((s : Nat) : Int))) rfl ?_
  refine WL_r (Rd_addN (j := 1) rfl rfl) rfl ?_
  refine WL_r (Rd_nilCheck rfl) rfl ?_
  refine WL_ac0 (Ac_store1 rfl rfl sz3) rfl rfl ?_
  rintro _ _ rfl
  refine WL_end hK4 ?_
  refine WC_sr fun K5 hK5 => ?_
  refine WL_r (Rd_move rfl) rfl ?_
  refine WL_r (Rd_move rfl) rfl ?_
  refine WL_r (Rd_assign rfl) rfl ?_
  refine WL_r (Rd_assign rfl) rfl ?_
  refine WL_end hK5 ?_
  refine WC_ret ?_
  exact hret.go ⟨(b, a, s + 1), .inr ⟨rfl, rfl⟩, Nat.le_refl _⟩ (Rs2 rfl rfl rfl)
 ·try simp only [dz, ne_eq] at hc0
  refine WC_skip ?_
  refine Ps_next hK2 ?_
  refine WC_sr fun K6 hK6 => ?_
  refine WL_r (Rd_move rfl) rfl ?_
  refine WL_r (Rd_move rfl) rfl ?_
  refine WL_r (Rd_assign rfl) rfl ?_
  refine WL_r (Rd_assign rfl) rfl ?_
  refine WL_end hK6 ?_
  refine WC_ret ?_
  exact hret.go ⟨(a, b, s), .inl ⟨rfl, rfl⟩, Nat.le_succ _⟩ (Rs2 rfl rfl rfl)

theorem med_ct {ga cap n a b : Nat} {l : List B32} {x c s : Nat} (hl : l.length = n) (hn : n ≤ 1000) (ha : a < n) (hb : b < n) (hx : x < n) (hs : s ≤ 900) : Ct Try.prog 103 [sl (some ga) n cap, .int .i64 ((a : Nat) : Int), .int .i64 ((b : Nat) : Int), .int .i64 ((x : Nat) : Int), .pointer (some ⟨c, 0, none⟩)] [arr (some ga) cap 1 25 (eU .u32 (w := 32)) l, cl c 3 [.int .i64 ((s : Nat) : Int)]] (fun g : {q : Nat × Nat // (q.1 = a ∨ q.1 = b ∨ q.1 = x) ∧ q.2 ≤ s + 3} => .int .i64 ((g.1.1 : Nat) : Int)) (fun g => [arr (some ga) cap 1 25 (eU .u32 (w := 32)) l, cl c 3 [.int .i64 ((g.1.2 : Nat) : Int)]]) := by
 refine Ct_body (n := 36) Try.func103 rfl rfl rfl fun F w0 Q hret hnorm hp => ?_
 change WC _ _ _ _ _ _ _ (_ :: _ :: F)
 refine WC_sr fun K1 hK1 => ?_
 refine WL_r (Rd_assign rfl) rfl ?_
 refine WL_end hK1 ?_
 refine WC_sr fun K2 hK2 => ?_
 refine WL_r (Rd_move rfl) rfl ?_
 refine WL_r (Rd_move rfl) rfl ?_
 refine WL_r (Rd_move rfl) rfl ?_
 refine WL_r (Rd_move rfl) rfl ?_
 refine WL_ac (Ac_call cf110 rfl (hs := ord2_ct (l := l) (c := c) (s := s) (a := a) (b := b) hl hn (by omega) (by omega) (by omega))) rfl rfl rfl ?_
 rintro _ _ ⟨⟨⟨a1, b1, s1⟩, h1, hs1⟩, rfl, hA⟩
 simp only [List.cons_append, List.nil_append] at hA
 replace hA := hA.symm
 subst hA
 dsimp only at h1 hs1 ⊢
 refine WL_r (Rd_move rfl) rfl ?_
 refine WL_r (Rd_ext0 rfl) rfl ?_
 refine WL_r (Rd_ext1 rfl) rfl ?_
 refine WL_r (Rd_assign rfl) rfl ?_
 refine WL_r (Rd_assign rfl) rfl ?_
 refine WL_end hK2 ?_
 refine WC_sr fun K3 hK3 => ?_
 refine WL_r (Rd_move rfl) rfl ?_
 refine WL_r (Rd_move rfl) rfl ?_
 refine WL_r (Rd_move rfl) rfl ?_
 refine WL_r (Rd_move rfl) rfl ?_
 refine WL_ac (Ac_call cf110 rfl (hs := ord2_ct (l := l) (c := c) (s := s1) (a := b1) (b := x) hl hn (by omega) (by omega) (by omega))) rfl rfl rfl ?_
 rintro _ _ ⟨⟨⟨b2, x2, s2⟩, h2, hs2⟩, rfl, hA⟩
 simp only [List.cons_append, List.nil_append] at hA
 replace hA := hA.symm
 subst hA
 dsimp only at h2 hs2 ⊢
 refine WL_r (Rd_move rfl) rfl ?_
 refine WL_r (Rd_ext0 rfl) rfl ?_
 refine WL_r (Rd_ext1 rfl) rfl ?_
 refine WL_r (Rd_assign rfl) rfl ?_
 refine WL_r (Rd_assign rfl) rfl ?_
 refine WL_end hK3 ?_
 refine WC_sr fun K4 hK4 => ?_
 refine WL_r (Rd_move rfl) rfl ?_
 refine WL_r (Rd_move rfl) rfl ?_
 refine WL_r (Rd_move rfl) rfl ?_
 refine WL_r (Rd_move rfl) rfl ?_
 refine WL_ac (Ac_call cf110 rfl (hs := ord2_ct (l := l) (c := c) (s := s2) (a := a1) (b := b2) hl hn (by omega) (by omega) (by omega))) rfl rfl rfl ?_
 rintro _ _ ⟨⟨⟨a3, b3, s3⟩, h3, hs3⟩, rfl, hA⟩
 simp only [List.cons_append, List.nil_append] at hA
 replace hA := hA.symm
 subst hA
 dsimp only at h3 hs3 ⊢
 refine WL_r (Rd_move rfl) rfl ?_
 refine WL_r (Rd_ext0 rfl) rfl ?_
 refine WL_r (Rd_ext1 rfl) rfl ?_
 refine WL_r (Rd_assign rfl) rfl ?_
 refine WL_r (Rd_assign rfl) rfl ?_
 refine WL_end hK4 ?_
 refine WC_sr fun K5 hK5 => ?_
 refine WL_r (Rd_move rfl) rfl ?_
 refine WL_r (Rd_assign rfl) rfl ?_
 refine WL_end hK5 ?_
 refine WC_ret ?_
 exact hret.go ⟨(b3, s3), by (try dsimp only); omega, by (try dsimp only); omega⟩ (Rs1 rfl rfl)

theorem medA_ct {ga cap n a c s : Nat} {l : List B32} (hl : l.length = n) (hn : n ≤ 1000) (ha : 1 ≤ a) (hb : a + 1 < n) (hs : s ≤ 900) : Ct Try.prog 102 [sl (some ga) n cap, .int .i64 ((a : Nat) : Int), .pointer (some ⟨c, 0, none⟩)] [arr (some ga) cap 1 25 (eU .u32 (w := 32)) l, cl c 3 [.int .i64 ((s : Nat) : Int)]] (fun g : {q : Nat × Nat // (a - 1 ≤ q.1 ∧ q.1 ≤ a + 1) ∧ q.2 ≤ s + 3} => .int .i64 ((g.1.1 : Nat) : Int)) (fun g => [arr (some ga) cap 1 25 (eU .u32 (w := 32)) l, cl c 3 [.int .i64 ((g.1.2 : Nat) : Int)]]) := by
 refine Ct_body (n := 15) Try.func102 rfl rfl rfl fun F w0 Q hret hnorm hp => ?_
 change WC _ _ _ _ _ _ _ (_ :: _ :: F)
 refine WC_sr fun K1 hK1 => ?_
 refine WL_r (Rd_assign rfl) rfl ?_
 refine WL_end hK1 ?_
 refine WC_sr fun K2 hK2 => ?_
 refine WL_r (Rd_move rfl) rfl ?_
 refine WL_r (Rd_move rfl) rfl ?_
 refine WL_r (Rd_subN (j := 1) rfl rfl) rfl ?_
 refine WL_r (Rd_move rfl) rfl ?_
 refine WL_r (Rd_move rfl) rfl ?_
 refine WL_r (Rd_addN (j := 1) rfl rfl) rfl ?_
 refine WL_r (Rd_move rfl) rfl ?_
 refine WL_ac (Ac_call cf103 rfl (hs := med_ct (l := l) (c := c) (s := s) (a := a - 1) (b := a) (x := a + 1) hl hn (by omega) (by omega) (by omega) (by omega))) rfl rfl rfl ?_
 rintro _ _ ⟨⟨⟨m1, s1⟩, h1, hs1⟩, rfl, hA⟩
 simp only [List.cons_append, List.nil_append] at hA
 replace hA := hA.symm
 subst hA
 refine WL_r (Rd_assign rfl) rfl ?_
 refine WL_end hK2 ?_
 refine WC_ret ?_
 exact hret.go ⟨(m1, s1), by (try dsimp only at *); omega, hs1⟩ (Rs1 rfl rfl)

theorem piv_ct {ga cap n a b : Nat} {l : List B32} (hl : l.length = n) (hn : n ≤ 1000) (hab : a + 13 ≤ b) (hb : b ≤ n) : Ct Try.prog 81 [sl (some ga) n cap, .int .i64 ((a : Nat) : Int), .int .i64 ((b : Nat) : Int)] [arr (some ga) cap 1 25 (eU .u32 (w := 32)) l] (fun g : {q : Nat × Nat // (a ≤ q.1 ∧ q.1 < b) ∧ q.2 ≤ 2} => .tuple #[.int .i64 ((g.1.1 : Nat) : Int), .int .i64 ((g.1.2 : Nat) : Int)]) (fun g => [arr (some ga) cap 1 25 (eU .u32 (w := 32)) l]) := by
 refine Ct_body (n := 57) Try.func81 rfl rfl rfl fun F w0 Q hret hnorm hp => ?_
 change WC _ _ _ _ _ _ _ (_ :: F)
 refine WC_sr fun K1 hK1 => ?_
 refine WL_r (Rd_assign rfl) rfl ?_
 refine WL_r (Rd_assign rfl) rfl ?_
 refine WL_end hK1 ?_
 refine WC_sr fun K2 hK2 => ?_
 refine WL_r (Rd_move rfl) rfl ?_
 refine WL_r (Rd_move rfl) rfl ?_
 refine WL_r (Rd_subN rfl rfl) rfl ?_
 refine WL_r (Rd_assign rfl) rfl ?_
 refine WL_end hK2 ?_
 refine WC_sr fun K3 hK3 => ?_
 refine WL_ac (Ac_alloc zr3) rfl rfl rfl ?_
 rintro _ _ ⟨b9, rfl, rfl⟩
 rw [show cl b9 3 [.int .i64 0] = cl b9 3 [.int .i64 ((0 : Nat) : Int)] from rfl]
 refine WL_end hK3 ?_
 refine WC_sr fun K4 hK4 => ?_
 refine WL_r (Rd_move rfl) rfl ?_
 refine WL_r (Rd_move rfl) rfl ?_
 refine WL_r (Rd_quoN (j := 4) rfl rfl) rfl ?_
 refine WL_r (Rd_mulN (j := 1) rfl rfl) rfl ?_
 refine WL_r (Rd_addN rfl rfl) rfl ?_
 refine WL_r (Rd_assign rfl) rfl ?_
 refine WL_end hK4 ?_
 refine WC_sr fun K5 hK5 => ?_
 refine WL_r (Rd_move rfl) rfl ?_
 refine WL_r (Rd_move rfl) rfl ?_
 refine WL_r (Rd_quoN (j := 4) rfl rfl) rfl ?_
 refine WL_r (Rd_mulN (j := 2) rfl rfl) rfl ?_
 refine WL_r (Rd_addN rfl rfl) rfl ?_
 refine WL_r (Rd_assign rfl) rfl ?_
 refine WL_end hK5 ?_
 refine WC_sr fun K6 hK6 => ?_
 refine WL_r (Rd_move rfl) rfl ?_
 refine WL_r (Rd_move rfl) rfl ?_
 refine WL_r (Rd_quoN (j := 4) rfl rfl) rfl ?_
 refine WL_r (Rd_mulN (j := 3) rfl rfl) rfl ?_
 refine WL_r (Rd_addN rfl rfl) rfl ?_
 refine WL_r (Rd_assign rfl) rfl ?_
 refine WL_end hK6 ?_
 refine WC_seq fun K7 hK7 => ?_
 refine WC_sr fun K8 hK8 => ?_
 refine WL_r (Rd_move rfl) rfl ?_
 refine WL_r (Rd_geqN (j := 8) rfl rfl) rfl ?_
 refine WL_end hK8 ?_
 refine WC_cond rfl (fun hc0 => ?_) (fun hc0 => ?_)
 ·try simp only [dz, ne_eq] at hc0
  refine WC_seq fun K9 hK9 => ?_
  refine WC_sr fun K10 hK10 => ?_
  refine WL_r (Rd_move rfl) rfl ?_
  refine WL_r (Rd_geqN (j := 50) rfl rfl) rfl ?_
  refine WL_end hK10 ?_
  refine WC_meet (B0 := [cl b9 3 [.int .i64 ((0 : Nat) : Int)]]) (σ := Nat × Nat × Nat × Nat) (fun ⟨i, j, k, s⟩ => [(10, .int .i64 ((i : Nat) : Int)), (11, .int .i64 ((j : Nat) : Int)), (12, .int .i64 ((k : Nat) : Int))]) (fun ⟨i, j, k, s⟩ => [cl b9 3 [.int .i64 ((s : Nat) : Int)]]) (fun ⟨i, j, k, s⟩ => (a ≤ i ∧ i < b) ∧ (a ≤ j ∧ j < b) ∧ (a ≤ k ∧ k < b) ∧ s ≤ 9) [0, 6, 7, 9, 34, 44, 45, 46, 47, 48, 49, 50, 51, 52, 53, 54, 55, 56] kpA (by (try dsimp only); repeat (first | with_reducible exact Gv.nil | (with_reducible apply Gv.cons; · (repeat (first | with_reducible exact Ext.here | with_reducible apply Ext.there))))) ?_ ?_
  ·intro hK11
   refine WC_cond rfl (fun hc1 => ?_) (fun hc1 => ?_)
   ·try simp only [dz, ne_eq] at hc1
    refine WC_sr fun K12 hK12 => ?_
    refine WL_r (Rd_move rfl) rfl ?_
    refine WL_r (Rd_move rfl) rfl ?_
    refine WL_ac (Ac_call cf102 rfl (hs := medA_ct (l := l) (c := b9) (s := 0) (a := a + (b - a) / 4 * 1) hl hn (by omega) (by omega) (by omega))) rfl rfl rfl ?_
    rintro _ _ ⟨⟨⟨i1, s1⟩, h1, hs1⟩, rfl, hA⟩
    simp only [List.cons_append, List.nil_append] at hA
    replace hA := hA.symm
    subst hA
    dsimp only at h1 hs1 ⊢
    refine WL_r (Rd_assign rfl) rfl ?_
    refine WL_end hK12 ?_
    refine WC_sr fun K13 hK13 => ?_
    refine WL_r (Rd_move rfl) rfl ?_
    refine WL_r (Rd_move rfl) rfl ?_
    refine WL_ac (Ac_call cf102 rfl (hs := medA_ct (l := l) (c := b9) (s := s1) (a := a + (b - a) / 4 * 2) hl hn (by omega) (by omega) (by omega))) rfl rfl rfl ?_
    rintro _ _ ⟨⟨⟨j1, s2⟩, h2, hs2⟩, rfl, hA⟩
    simp only [List.cons_append, List.nil_append] at hA
    replace hA := hA.symm
    subst hA
    dsimp only at h2 hs2 ⊢
    refine WL_r (Rd_assign rfl) rfl ?_
    refine WL_end hK13 ?_
    refine WC_region ?_
    refine WL_r (Rd_move rfl) rfl ?_
    refine WL_r (Rd_move rfl) rfl ?_
    refine WL_ac (Ac_call cf102 rfl (hs := medA_ct (l := l) (c := b9) (s := s2) (a := a + (b - a) / 4 * 3) hl hn (by omega) (by omega) (by omega))) rfl rfl rfl ?_
    rintro _ _ ⟨⟨⟨k1, s3⟩, h3, hs3⟩, rfl, hA⟩
    simp only [List.cons_append, List.nil_append] at hA
    replace hA := hA.symm
    subst hA
    dsimp only at h3 hs3 ⊢
    refine WL_r (Rd_assign rfl) rfl ?_
    refine WL_nil ?_
    refine Ps_wkA (hK11 ⟨i1, j1, k1, s3⟩ (⟨by (try dsimp only); omega, by (try dsimp only); omega, by (try dsimp only); omega, by (try dsimp only); omega⟩))
   ·try simp only [dz, ne_eq] at hc1
    refine WC_skip ?_
    refine Ps_wkA (hK11 ⟨a + (b - a) / 4 * 1, a + (b - a) / 4 * 2, a + (b - a) / 4 * 3, 0⟩ (⟨by (try dsimp only); omega, by (try dsimp only); omega, by (try dsimp only); omega, by (try dsimp only); omega⟩))
  ·rintro ⟨i, j, k, s⟩ ⟨hi, hj, hk, hs⟩
   simp only [List.cons_append, List.nil_append]
   refine Ps_next hK9 ?_
   refine WC_region ?_
   refine WL_r (Rd_move rfl) rfl ?_
   refine WL_r (Rd_move rfl) rfl ?_
   refine WL_r (Rd_move rfl) rfl ?_
   refine WL_r (Rd_move rfl) rfl ?_
   refine WL_ac (Ac_call cf103 rfl (hs := med_ct (l := l) (c := b9) (s := s) (a := i) (b := j) (x := k) hl hn (by omega) (by omega) (by omega) (by omega))) rfl rfl rfl ?_
   rintro _ _ ⟨⟨⟨m4, s4⟩, h4, hs4⟩, rfl, hA⟩
   simp only [List.cons_append, List.nil_append] at hA
   replace hA := hA.symm
   subst hA
   dsimp only at h4 hs4 ⊢
   refine WL_r (Rd_assign rfl) rfl ?_
   refine WL_nil ?_
   refine Ps_next hK7 ?_
   refine WC_sr fun K14 hK14 => ?_
   refine WL_r (Rd_load rfl tk3 (v := .int .i64 ((s4 : Nat) : Int))) rfl ?_
   refine WL_end hK14 ?_
   refine WC_block ?_
   refine WC_sr fun K15 hK15 => ?_
   refine WL_r (Rd_eqlN (j := 0) rfl rfl) rfl ?_
   refine WL_r (Rd_assign rfl) rfl ?_
   refine WL_end hK15 ?_
   refine WC_cond rfl (fun hc2 => ?_) (fun hc2 => ?_)
   ·try simp only [dz, ne_eq] at hc2
    refine WC_sr fun K16 hK16 => ?_
    refine WL_r (Rd_move rfl) rfl ?_
    refine WL_r (Rd_assign rfl) rfl ?_
    refine WL_r (Rd_assign rfl) rfl ?_
    refine WL_end hK16 ?_
    refine WC_ret ?_
    exact hret.go ⟨(m4, 1), by (try dsimp only); omega, by (try dsimp only); omega⟩ (Rs2 rfl rfl rfl)
   ·try simp only [dz, ne_eq] at hc2
    refine WC_sr fun K17 hK17 => ?_
    refine WL_r (Rd_eqlN (j := 12) rfl rfl) rfl ?_
    refine WL_r (Rd_assign rfl) rfl ?_
    refine WL_end hK17 ?_
    refine WC_cond rfl (fun hc3 => ?_) (fun hc3 => ?_)
    ·try simp only [dz, ne_eq] at hc3
     refine WC_sr fun K18 hK18 => ?_
     refine WL_r (Rd_move rfl) rfl ?_
     refine WL_r (Rd_assign rfl) rfl ?_
     refine WL_r (Rd_assign rfl) rfl ?_
     refine WL_end hK18 ?_
     refine WC_ret ?_
     exact hret.go ⟨(m4, 2), by (try dsimp only); omega, by (try dsimp only); omega⟩ (Rs2 rfl rfl rfl)
    ·try simp only [dz, ne_eq] at hc3
     refine WC_sr fun K19 hK19 => ?_
     refine WL_r (Rd_move rfl) rfl ?_
     refine WL_r (Rd_assign rfl) rfl ?_
     refine WL_r (Rd_assign rfl) rfl ?_
     refine WL_end hK19 ?_
     refine WC_ret ?_
     exact hret.go ⟨(m4, 0), by (try dsimp only); omega, by (try dsimp only); omega⟩ (Rs2 rfl rfl rfl)
 ·try simp only [dz, ne_eq] at hc0
  omega

theorem revR_ct {ga cap n a b : Nat} {l : List B32} (hl : l.length = n) (hn : n ≤ 1000) (hab : a < b) (hb : b ≤ n) : Ct Try.prog 82 [sl (some ga) n cap, .int .i64 ((a : Nat) : Int), .int .i64 ((b : Nat) : Int)] [arr (some ga) cap 1 25 (eU .u32 (w := 32)) l] (fun g : {m : List B32 // SwR a b l m} => .tuple #[]) (fun g => [arr (some ga) cap 1 25 (eU .u32 (w := 32)) g.1]) := by
 refine Ct_body (n := 32) Try.func82 rfl rfl rfl fun F w0 Q hret hnorm hp => ?_
 change WC _ _ _ _ _ _ _ (_ :: F)
 refine WC_sr fun K1 hK1 => ?_
 refine WL_r (Rd_move rfl) rfl ?_
 refine WL_r (Rd_assign rfl) rfl ?_
 refine WL_end hK1 ?_
 refine WC_sr fun K2 hK2 => ?_
 refine WL_r (Rd_move rfl) rfl ?_
 refine WL_r (Rd_subN (j := 1) rfl rfl) rfl ?_
 refine WL_r (Rd_assign rfl) rfl ?_
 refine WL_end hK2 ?_
 refine WC_block ?_
 refine WC_loopK (σ := Nat × Nat × (List B32)) (fun ⟨i, j, w⟩ => [(6, .int .i64 ((i : Nat) : Int)), (7, .int .i64 ((j : Nat) : Int))]) (fun ⟨i, j, w⟩ => [arr (some ga) cap 1 25 (eU .u32 (w := 32)) w]) (fun ⟨i, j, w⟩ => (a ≤ i ∧ j < b ∧ i ≤ b) ∧ SwR a b l w ∧ w.length = n) (fun ⟨i, j, w⟩ => b - i) ⟨a, b - 1, l⟩ [0] kpA (by (try dsimp only); repeat (first | with_reducible exact Gv.nil | (with_reducible apply Gv.cons; · (repeat (first | with_reducible exact Ext.here | with_reducible apply Ext.there))))) ?_ ?_ Sub.refl ?_
 ·exact ⟨by omega, .refl, hl⟩
 ·(try dsimp only); exact (Wk.cons lkA (Wk.cons lkA Wk.nil))
 ·rintro ⟨i, j, w⟩ ⟨hi, hsw, hwl⟩ K3 hK3
  simp only [List.cons_append, List.nil_append]
  refine WC_seq fun K4 hK4 => ?_
  refine WC_sr fun K5 hK5 => ?_
  refine WL_r (Rd_move rfl) rfl ?_
  refine WL_r (Rd_move rfl) rfl ?_
  refine WL_r (Rd_lssN rfl rfl) rfl ?_
  refine WL_end hK5 ?_
  refine WC_cond rfl (fun hc0 => ?_) (fun hc0 => ?_)
  ·try simp only [dz, ne_eq] at hc0
   refine WC_skip ?_
   refine Ps_next hK4 ?_
   refine WC_block ?_
   refine WC_seq fun K6 hK6 => ?_
   refine WC_drawA mix (fun i => ([2, 2, 2, 2, 2, 2, 2, 2, 2, 2, 2, 2, 2, 0, 2, 0] : List Nat).getD i 0) ?_
   refine WJ_tp 0 rfl (Rd_move rfl) rfl (hp _ _) ?_
   refine WJ_tp 1 rfl (Rd_move rfl) rfl (hp _ _) ?_
   refine WJ_tp 2 rfl (Rd_move rfl) rfl (hp _ _) ?_
   refine WJ_tp 3 rfl (Rd_move rfl) rfl (hp _ _) ?_
   refine WJ_tp 4 rfl (Rd_move rfl) rfl (hp _ _) ?_
   refine WJ_tp 5 rfl (Rd_move rfl) rfl (hp _ _) ?_
   refine WJ_tp 6 rfl (Rd_index (j) rfl rfl ud99 sz25 (hj := by omega)) rfl (hp _ _) ?_
   refine WJ_tk 7 (Rd_load_arr (i := j) (j := 0) rfl tk25 (hl := getA (l := w) (by omega))) hp ?_ rfl (by kernel_rfl) rfl rfl rfl
   refine WJ_tp 8 rfl (Rd_move rfl) rfl (hp _ _) ?_
   refine WJ_tp 9 rfl (Rd_move rfl) rfl (hp _ _) ?_
   refine WJ_tp 10 rfl (Rd_index (i) rfl rfl ud99 sz25 (hj := by omega)) rfl (hp _ _) ?_
   refine WJ_tk 11 (Rd_load_arr (i := i) (j := 0) rfl tk25 (hl := getA (l := w) (by omega))) hp ?_ rfl (by kernel_rfl) rfl rfl rfl
   refine WJ_tp 12 rfl (Rd_index (i) rfl rfl ud99 sz25 (hj := by omega)) rfl (hp _ _) ?_
   refine WJ_all (rs := [13]) (by kernel_rfl) rfl ?_
   refine WI_one ?_
   refine WI_ac0 rfl (Ac_store_arr (w.getD (j) 0#32) rfl rfl sz25 (i := i) (j := 0) (hl := getA (l := w) (by omega))) rfl rfl rfl ?_
   rintro _ _ rfl
   refine ⟨(fun h => by cases h), ?_⟩
   refine WJ_tp 14 rfl (Rd_index (j) rfl rfl ud99 sz25 (hj := by omega)) rfl (hp _ _) ?_
   refine WJ_all (rs := [15]) (by kernel_rfl) rfl ?_
   refine WI_one ?_
   refine WI_ac0 rfl (Ac_store_arr (w.getD (i) 0#32) rfl rfl sz25 (i := j) (j := 0) (hl := getA (by rw [List.length_set]; omega))) rfl rfl rfl ?_
   rintro _ _ rfl
   refine ⟨(fun h => by cases h), ?_⟩
   refine WJ_done (by kernel_rfl) ?_
   refine Ps_next hK6 ?_
   refine WC_sr fun K7 hK7 => ?_
   rw [show (w.set (i) (w.getD (j) 0#32)).set (j) (w.getD (i) 0#32) = swA w (i) (j) from rfl]
   refine WL_r (Rd_move rfl) rfl ?_
   refine WL_r (Rd_addN (j := 1) rfl rfl) rfl ?_
   refine WL_r (Rd_assign rfl) rfl ?_
   refine WL_end hK7 ?_
   refine WC_region ?_
   refine WL_r (Rd_move rfl) rfl ?_
   refine WL_r (Rd_subN (j := 1) rfl rfl) rfl ?_
   refine WL_r (Rd_assign rfl) rfl ?_
   refine WL_nil ?_
   refine Ps_wkA (hK3 ⟨i + 1, j - 1, swA w i j⟩ (⟨by (try dsimp only); omega, .step hsw (by omega) (by omega) (by omega) (by omega), by (try dsimp only); rw [swA_len]; exact hwl⟩) (by (try dsimp only); omega))
  ·try simp only [dz, ne_eq] at hc0
   refine WC_exit ?_
   exact hnorm.go ⟨w, hsw⟩ (Rs0 rfl)
end Go.Proofs.Ytoakfknnaiapiaa
namespace Go.Proofs.Ytoakfknnaiapiaa
open Go.RowKit Go.SL Go.ShM Go.SvM
set_option maxHeartbeats 1000000
set_option maxRecDepth 20000
set_option linter.all false
theorem cf101 : cfn Try.prog 101 = true := by kernel_rfl
theorem sift_ct {ga cap n lo hi f : Nat} {l : List B32} (hl : l.length = n) (hn : n ≤ 1000) (hlo : lo ≤ 1000) (hf : f + hi ≤ n) (hh : hpF l f (lo + 1) hi) : Ct Try.prog 101 [sl (some ga) n cap, .int .i64 ((lo : Nat) : Int), .int .i64 ((hi : Nat) : Int), .int .i64 ((f : Nat) : Int)] [arr (some ga) cap 1 25 (eU .u32 (w := 32)) l] (fun g : {m : List B32 // SwR f (f + hi) l m ∧ hpF m f lo hi} => .tuple #[]) (fun g => [arr (some ga) cap 1 25 (eU .u32 (w := 32)) g.1]) := by
 refine Ct_body (n := 76) Try.func101 rfl rfl rfl fun F w0 Q hret hnorm hp => ?_
 change WC _ _ _ _ _ _ _ (_ :: F)
 refine WC_sr fun K1 hK1 => ?_
 refine WL_r (Rd_move rfl) rfl ?_
 refine WL_r (Rd_assign rfl) rfl ?_
 refine WL_end hK1 ?_
 refine WC_block ?_
 refine WC_loopK (σ := Nat × (List B32)) (fun ⟨r, w⟩ => [(8, .int .i64 ((r : Nat) : Int))]) (fun ⟨r, w⟩ => [arr (some ga) cap 1 25 (eU .u32 (w := 32)) w]) (fun ⟨r, w⟩ => (r < hi ∨ r = lo) ∧ hpX w f lo hi r ∧ SwR f (f + hi) l w ∧ w.length = n) (fun ⟨r, w⟩ => hi - r) ⟨lo, l⟩ [0, 2, 3] kpA (by (try dsimp only); repeat (first | with_reducible exact Gv.nil | (with_reducible apply Gv.cons; · (repeat (first | with_reducible exact Ext.here | with_reducible apply Ext.there))))) ?_ ?_ Sub.refl ?_
 ·exact ⟨.inr rfl, hpX_of hh, .refl, hl⟩
 ·(try dsimp only); exact (Wk.cons lkA Wk.nil)
 ·rintro ⟨r, w⟩ ⟨hr, hx, hsw, hwl⟩ K2 hK2
  simp only [List.cons_append, List.nil_append]
  refine WC_block ?_
  refine WC_sr fun K3 hK3 => ?_
  refine WL_r (Rd_move rfl) rfl ?_
  refine WL_r (Rd_mulN (i := 2) rfl rfl) rfl ?_
  refine WL_r (Rd_addN (j := 1) rfl rfl) rfl ?_
  refine WL_r (Rd_assign rfl) rfl ?_
  refine WL_end hK3 ?_
  refine WC_seq fun K4 hK4 => ?_
  refine WC_sr fun K5 hK5 => ?_
  refine WL_r (Rd_move rfl) rfl ?_
  refine WL_r (Rd_move rfl) rfl ?_
  refine WL_r (Rd_geqN rfl rfl) rfl ?_
  refine WL_end hK5 ?_
  refine WC_cond rfl (fun hc0 => ?_) (fun hc0 => ?_)
  ·try simp only [dz, ne_eq] at hc0
   refine WC_exit ?_
   exact hnorm.go ⟨w, hsw, hpX_end hx fun c h1 h2 => by omega⟩ (Rs0 rfl)
  ·try simp only [dz, ne_eq] at hc0
   refine WC_skip ?_
   refine Ps_next hK4 ?_
   refine WC_seq fun K6 hK6 => ?_
   refine WC_seq fun K7 hK7 => ?_
   refine WC_draw mix [arr (some ga) cap 1 25 (eU .u32 (w := 32)) w] (fun i => ([2, 2, 2, 2, 2, 2, 2, 2, 2, 2, 2, 2, 2, 2, 2, 2, 2, 2, 1, 2] : List Nat).getD i 0) ?_
   refine WJ_tp 0 rfl (Rd_move rfl) rfl (hp _ _) ?_
   refine WJ_tp 1 rfl (Rd_addN (j := 1) rfl rfl) rfl (hp _ _) ?_
   refine WJ_tp 2 rfl (Rd_move rfl) rfl (hp _ _) ?_
   refine WJ_tp 3 rfl (Rd_lssN rfl rfl) rfl (hp _ _) ?_
   refine WJ_tp 4 rfl (Rd_move rfl) rfl (hp _ _) ?_
   refine WJ_bool 21 rfl (fun hg8 => ?_) (fun hg8 => ?_)
   ·try simp only [dz, ne_eq] at hg8
    refine WJ_tp 5 rfl (Rd_move rfl) rfl (hp _ _) ?_
    refine WJ_tp 6 rfl (Rd_move rfl) rfl (hp _ _) ?_
    refine WJ_tp 7 rfl (Rd_move rfl) rfl (hp _ _) ?_
    refine WJ_tp 8 rfl (Rd_addN rfl rfl) rfl (hp _ _) ?_
    refine WJ_tp 9 rfl (Rd_index (f + (2 * r + 1)) rfl rfl ud99 sz25 (hj := by omega)) rfl (hp _ _) ?_
    refine WJ_tk 10 (Rd_load_arr (i := f + (2 * r + 1)) (j := 0) rfl tk25 (hl := getA (l := w) (by omega))) hp ?_ rfl (by kernel_rfl) rfl rfl rfl
    refine WJ_tp 11 rfl (Rd_move rfl) rfl (hp _ _) ?_
    refine WJ_tp 12 rfl (Rd_move rfl) rfl (hp _ _) ?_
    refine WJ_tp 13 rfl (Rd_move rfl) rfl (hp _ _) ?_
    refine WJ_tp 14 rfl (Rd_addN rfl rfl) rfl (hp _ _) ?_
    refine WJ_tp 15 rfl (Rd_addN (j := 1) rfl rfl) rfl (hp _ _) ?_
    refine WJ_tp 16 rfl (Rd_index (f + (2 * r + 1) + 1) rfl rfl ud99 sz25 (hj := by omega)) rfl (hp _ _) ?_
    refine WJ_tk 17 (Rd_load_arr (i := f + (2 * r + 1) + 1) (j := 0) rfl tk25 (hl := getA (l := w) (by omega))) hp ?_ rfl (by kernel_rfl) rfl rfl rfl
    refine WJ_all (rs := [18]) (by kernel_rfl) rfl ?_
    refine WI_one ?_
    refine WI_ac rfl (Ac_call cf84 rfl (hs := lessW_ct (x := w.getD (f + (2 * r + 1)) 0#32) (y := w.getD (f + (2 * r + 1) + 1) 0#32))) rfl rfl rfl rfl ?_
    rintro _ _ ⟨⟨⟩, rfl, hA⟩
    simp only [List.cons_append, List.nil_append] at hA
    replace hA := hA.symm
    subst hA
    refine ⟨(fun _ => subA), ?_⟩
    refine WJ_tp 19 rfl (Rd_pickT rfl rfl) rfl (hp _ _) ?_
    refine WJ_done (by kernel_rfl) ?_
    refine Ps_next hK7 ?_
    refine WC_meet (B0 := []) (σ := Nat) (fun c => [(9, .int .i64 ((c : Nat) : Int))]) (fun c => []) (fun c => ((c = 2 * r + 1 ∨ c = 2 * r + 2) ∧ c < hi) ∧ (∀ e, (e = 2 * r + 1 ∨ e = 2 * r + 2) → e < hi → vA w (f + e) ≤ vA w (f + c))) [0, 2, 3, 8, 11, 12, 13, 14, 15, 16, 17, 18, 19, 20, 21, 22, 23, 24, 25, 26, 27, 28, 29, 30, 31, 32, 33, 34, 35, 36, 39, 40, 41, 42, 43, 44, 45, 46, 47, 48, 49, 50, 51, 52, 53, 54, 55, 56, 57, 58, 59, 60, 61, 62, 63, 64, 65, 66, 67, 68, 69, 70, 71, 72, 73, 74, 75] kpA (by (try dsimp only); repeat (first | with_reducible exact Gv.nil | (with_reducible apply Gv.cons; · (repeat (first | with_reducible exact Ext.here | with_reducible apply Ext.there))))) ?_ ?_
    ·intro hK9
     refine WC_cond rfl (fun hc1 => ?_) (fun hc1 => ?_)
     ·try simp only [dz, ne_eq] at hc1
      have hgt : vA w (f + (2 * r + 1)) ≤ vA w (f + (2 * r + 2)) := by rw [show f + (2 * r + 2) = f + (2 * r + 1) + 1 from rfl]; unfold vA at *; omega
      refine WC_region ?_
      refine WL_r (Rd_move rfl) rfl ?_
      refine WL_r (Rd_addN (j := 1) rfl rfl) rfl ?_
      refine WL_r (Rd_assign rfl) rfl ?_
      refine WL_nil ?_
      refine Ps_wkA (hK9 (2 * r + 1 + 1) (⟨by (try dsimp only); omega, sift_max2 hgt⟩))
     ·try simp only [dz, ne_eq] at hc1
      have hngt : 2 * r + 2 < hi → vA w (f + (2 * r + 2)) ≤ vA w (f + (2 * r + 1)) := by rw [show f + (2 * r + 2) = f + (2 * r + 1) + 1 from rfl]; unfold vA at *; omega
      refine WC_skip ?_
      refine Ps_wkA (hK9 (2 * r + 1) (⟨by (try dsimp only); omega, sift_max1 hngt⟩))
    ·rintro c ⟨hc, hmx⟩
     simp only [List.cons_append, List.nil_append]
     refine Ps_next hK6 ?_
     refine WC_seq fun K10 hK10 => ?_
     refine WC_seq fun K11 hK11 => ?_
     refine WC_draw mix [arr (some ga) cap 1 25 (eU .u32 (w := 32)) w] (fun i => ([2, 2, 2, 2, 2, 2, 2, 2, 2, 2, 2, 2, 1, 2] : List Nat).getD i 0) ?_
     refine WJ_tp 0 rfl (Rd_move rfl) rfl (hp _ _) ?_
     refine WJ_tp 1 rfl (Rd_move rfl) rfl (hp _ _) ?_
     refine WJ_tp 2 rfl (Rd_move rfl) rfl (hp _ _) ?_
     refine WJ_tp 3 rfl (Rd_addN rfl rfl) rfl (hp _ _) ?_
     refine WJ_tp 4 rfl (Rd_index (f + r) rfl rfl ud99 sz25 (hj := by omega)) rfl (hp _ _) ?_
     refine WJ_tk 5 (Rd_load_arr (i := f + r) (j := 0) rfl tk25 (hl := getA (l := w) (by omega))) hp ?_ rfl (by kernel_rfl) rfl rfl rfl
     refine WJ_tp 6 rfl (Rd_move rfl) rfl (hp _ _) ?_
     refine WJ_tp 7 rfl (Rd_move rfl) rfl (hp _ _) ?_
     refine WJ_tp 8 rfl (Rd_move rfl) rfl (hp _ _) ?_
     refine WJ_tp 9 rfl (Rd_addN rfl rfl) rfl (hp _ _) ?_
     refine WJ_tp 10 rfl (Rd_index (f + c) rfl rfl ud99 sz25 (hj := by omega)) rfl (hp _ _) ?_
     refine WJ_tk 11 (Rd_load_arr (i := f + c) (j := 0) rfl tk25 (hl := getA (l := w) (by omega))) hp ?_ rfl (by kernel_rfl) rfl rfl rfl
     refine WJ_all (rs := [12]) (by kernel_rfl) rfl ?_
     refine WI_one ?_
     refine WI_ac rfl (Ac_call cf84 rfl (hs := lessW_ct (x := w.getD (f + r) 0#32) (y := w.getD (f + c) 0#32))) rfl rfl rfl rfl ?_
     rintro _ _ ⟨⟨⟩, rfl, hA⟩
     simp only [List.cons_append, List.nil_append] at hA
     replace hA := hA.symm
     subst hA
     refine ⟨(fun _ => subA), ?_⟩
     refine WJ_tp 13 rfl (Rd_not rfl) rfl (hp _ _) ?_
     refine WJ_done (by kernel_rfl) ?_
     refine Ps_next hK11 ?_
     refine WC_cond rfl (fun hc2 => ?_) (fun hc2 => ?_)
     ·try simp only [dz, ne_eq] at hc2
      have hge : vA w (f + c) ≤ vA w (f + r) := by unfold vA at *; omega
      refine WC_ret ?_
      exact hret.go ⟨w, hsw, hpX_end hx fun e h1 h2 => Nat.le_trans (hmx e h1 h2) hge⟩ (Rs0 rfl)
     ·try simp only [dz, ne_eq] at hc2
      have hlt : vA w (f + r) ≤ vA w (f + c) := by unfold vA at *; omega
      refine WC_skip ?_
      refine Ps_next hK10 ?_
      refine WC_seq fun K12 hK12 => ?_
      refine WC_drawA mix (fun i => ([2, 2, 2, 2, 2, 2, 2, 2, 2, 2, 2, 2, 2, 2, 2, 2, 2, 2, 2, 2, 2, 0, 2, 0] : List Nat).getD i 0) ?_
      refine WJ_tp 0 rfl (Rd_move rfl) rfl (hp _ _) ?_
      refine WJ_tp 1 rfl (Rd_move rfl) rfl (hp _ _) ?_
      refine WJ_tp 2 rfl (Rd_move rfl) rfl (hp _ _) ?_
      refine WJ_tp 3 rfl (Rd_addN rfl rfl) rfl (hp _ _) ?_
      refine WJ_tp 4 rfl (Rd_move rfl) rfl (hp _ _) ?_
      refine WJ_tp 5 rfl (Rd_move rfl) rfl (hp _ _) ?_
      refine WJ_tp 6 rfl (Rd_move rfl) rfl (hp _ _) ?_
      refine WJ_tp 7 rfl (Rd_addN rfl rfl) rfl (hp _ _) ?_
      refine WJ_tp 8 rfl (Rd_move rfl) rfl (hp _ _) ?_
      refine WJ_tp 9 rfl (Rd_move rfl) rfl (hp _ _) ?_
      refine WJ_tp 10 rfl (Rd_move rfl) rfl (hp _ _) ?_
      refine WJ_tp 11 rfl (Rd_addN rfl rfl) rfl (hp _ _) ?_
      refine WJ_tp 12 rfl (Rd_index (f + c) rfl rfl ud99 sz25 (hj := by omega)) rfl (hp _ _) ?_
      refine WJ_tk 13 (Rd_load_arr (i := f + c) (j := 0) rfl tk25 (hl := getA (l := w) (by omega))) hp ?_ rfl (by kernel_rfl) rfl rfl rfl
      refine WJ_tp 14 rfl (Rd_move rfl) rfl (hp _ _) ?_
      refine WJ_tp 15 rfl (Rd_move rfl) rfl (hp _ _) ?_
      refine WJ_tp 16 rfl (Rd_move rfl) rfl (hp _ _) ?_
      refine WJ_tp 17 rfl (Rd_addN rfl rfl) rfl (hp _ _) ?_
      refine WJ_tp 18 rfl (Rd_index (f + r) rfl rfl ud99 sz25 (hj := by omega)) rfl (hp _ _) ?_
      refine WJ_tk 19 (Rd_load_arr (i := f + r) (j := 0) rfl tk25 (hl := getA (l := w) (by omega))) hp ?_ rfl (by kernel_rfl) rfl rfl rfl
      refine WJ_tp 20 rfl (Rd_index (f + r) rfl rfl ud99 sz25 (hj := by omega)) rfl (hp _ _) ?_
      refine WJ_all (rs := [21]) (by kernel_rfl) rfl ?_
      refine WI_one ?_
      refine WI_ac0 rfl (Ac_store_arr (w.getD (f + c) 0#32) rfl rfl sz25 (i := f + r) (j := 0) (hl := getA (l := w) (by omega))) rfl rfl rfl ?_
      rintro _ _ rfl
      refine ⟨(fun h => by cases h), ?_⟩
      refine WJ_tp 22 rfl (Rd_index (f + c) rfl rfl ud99 sz25 (hj := by omega)) rfl (hp _ _) ?_
      refine WJ_all (rs := [23]) (by kernel_rfl) rfl ?_
      refine WI_one ?_
      refine WI_ac0 rfl (Ac_store_arr (w.getD (f + r) 0#32) rfl rfl sz25 (i := f + c) (j := 0) (hl := getA (by rw [List.length_set]; omega))) rfl rfl rfl ?_
      rintro _ _ rfl
      refine ⟨(fun h => by cases h), ?_⟩
      refine WJ_done (by kernel_rfl) ?_
      refine Ps_next hK12 ?_
      refine WC_region ?_
      rw [show (w.set (f + r) (w.getD (f + c) 0#32)).set (f + c) (w.getD (f + r) 0#32) = swA w (f + r) (f + c) from rfl]
      refine WL_r (Rd_move rfl) rfl ?_
      refine WL_r (Rd_assign rfl) rfl ?_
      refine WL_nil ?_
      refine Ps_wkA (hK2 ⟨c, swA w (f + r) (f + c)⟩ (⟨by (try dsimp only); omega, hpX_step hx (by omega) hc.1 hc.2 hlt hmx, .step hsw (by omega) (by omega) (by omega) (by omega), by (try dsimp only); rw [swA_len]; exact hwl⟩) (by (try dsimp only); omega))
   ·try simp only [dz, ne_eq] at hg8
    refine WJ_skip 5 rfl (by kernel_rfl) rfl rfl rfl (hp _ _) ?_
    refine WJ_skip 6 rfl (by kernel_rfl) rfl rfl rfl (hp _ _) ?_
    refine WJ_skip 7 rfl (by kernel_rfl) rfl rfl rfl (hp _ _) ?_
    refine WJ_skip 8 rfl (by kernel_rfl) rfl rfl rfl (hp _ _) ?_
    refine WJ_skip 9 rfl (by kernel_rfl) rfl rfl rfl (hp _ _) ?_
    refine WJ_skip 10 rfl (by kernel_rfl) rfl rfl rfl (hp _ _) ?_
    refine WJ_skip 11 rfl (by kernel_rfl) rfl rfl rfl (hp _ _) ?_
    refine WJ_skip 12 rfl (by kernel_rfl) rfl rfl rfl (hp _ _) ?_
    refine WJ_skip 13 rfl (by kernel_rfl) rfl rfl rfl (hp _ _) ?_
    refine WJ_skip 14 rfl (by kernel_rfl) rfl rfl rfl (hp _ _) ?_
    refine WJ_skip 15 rfl (by kernel_rfl) rfl rfl rfl (hp _ _) ?_
    refine WJ_skip 16 rfl (by kernel_rfl) rfl rfl rfl (hp _ _) ?_
    refine WJ_skip 17 rfl (by kernel_rfl) rfl rfl rfl (hp _ _) ?_
    refine WJ_all (rs := [18]) (by kernel_rfl) rfl ?_
    refine WI_one ?_
    refine WI_skip rfl rfl rfl rfl (fun _ => subA) ?_
    refine WJ_tp 19 rfl (Rd_pickF rfl rfl) rfl (hp _ _) ?_
    refine WJ_done (by kernel_rfl) ?_
    refine Ps_next hK7 ?_
    refine WC_meet (B0 := []) (σ := Nat) (fun c => [(9, .int .i64 ((c : Nat) : Int))]) (fun c => []) (fun c => ((c = 2 * r + 1 ∨ c = 2 * r + 2) ∧ c < hi) ∧ (∀ e, (e = 2 * r + 1 ∨ e = 2 * r + 2) → e < hi → vA w (f + e) ≤ vA w (f + c))) [0, 2, 3, 8, 11, 12, 13, 14, 15, 16, 17, 18, 19, 20, 21, 22, 23, 24, 25, 26, 27, 28, 29, 30, 31, 32, 33, 34, 35, 36, 39, 40, 41, 42, 43, 44, 45, 46, 47, 48, 49, 50, 51, 52, 53, 54, 55, 56, 57, 58, 59, 60, 61, 62, 63, 64, 65, 66, 67, 68, 69, 70, 71, 72, 73, 74, 75] kpA (by (try dsimp only); repeat (first | with_reducible exact Gv.nil | (with_reducible apply Gv.cons; · (repeat (first | with_reducible exact Ext.here | with_reducible apply Ext.there))))) ?_ ?_
    ·intro hK13
     refine WC_condF rfl ?_
     have hngt : 2 * r + 2 < hi → vA w (f + (2 * r + 2)) ≤ vA w (f + (2 * r + 1)) := by rw [show f + (2 * r + 2) = f + (2 * r + 1) + 1 from rfl]; unfold vA at *; omega
     refine WC_skip ?_
     refine Ps_wkA (hK13 (2 * r + 1) (⟨by (try dsimp only); omega, sift_max1 hngt⟩))
    ·rintro c ⟨hc, hmx⟩
     simp only [List.cons_append, List.nil_append]
     refine Ps_next hK6 ?_
     refine WC_seq fun K14 hK14 => ?_
     refine WC_seq fun K15 hK15 => ?_
     refine WC_draw mix [arr (some ga) cap 1 25 (eU .u32 (w := 32)) w] (fun i => ([2, 2, 2, 2, 2, 2, 2, 2, 2, 2, 2, 2, 1, 2] : List Nat).getD i 0) ?_
     refine WJ_tp 0 rfl (Rd_move rfl) rfl (hp _ _) ?_
     refine WJ_tp 1 rfl (Rd_move rfl) rfl (hp _ _) ?_
     refine WJ_tp 2 rfl (Rd_move rfl) rfl (hp _ _) ?_
     refine WJ_tp 3 rfl (Rd_addN rfl rfl) rfl (hp _ _) ?_
     refine WJ_tp 4 rfl (Rd_index (f + r) rfl rfl ud99 sz25 (hj := by omega)) rfl (hp _ _) ?_
     refine WJ_tk 5 (Rd_load_arr (i := f + r) (j := 0) rfl tk25 (hl := getA (l := w) (by omega))) hp ?_ rfl (by kernel_rfl) rfl rfl rfl
     refine WJ_tp 6 rfl (Rd_move rfl) rfl (hp _ _) ?_
     refine WJ_tp 7 rfl (Rd_move rfl) rfl (hp _ _) ?_
     refine WJ_tp 8 rfl (Rd_move rfl) rfl (hp _ _) ?_
     refine WJ_tp 9 rfl (Rd_addN rfl rfl) rfl (hp _ _) ?_
     refine WJ_tp 10 rfl (Rd_index (f + c) rfl rfl ud99 sz25 (hj := by omega)) rfl (hp _ _) ?_
     refine WJ_tk 11 (Rd_load_arr (i := f + c) (j := 0) rfl tk25 (hl := getA (l := w) (by omega))) hp ?_ rfl (by kernel_rfl) rfl rfl rfl
     refine WJ_all (rs := [12]) (by kernel_rfl) rfl ?_
     refine WI_one ?_
     refine WI_ac rfl (Ac_call cf84 rfl (hs := lessW_ct (x := w.getD (f + r) 0#32) (y := w.getD (f + c) 0#32))) rfl rfl rfl rfl ?_
     rintro _ _ ⟨⟨⟩, rfl, hA⟩
     simp only [List.cons_append, List.nil_append] at hA
     replace hA := hA.symm
     subst hA
     refine ⟨(fun _ => subA), ?_⟩
     refine WJ_tp 13 rfl (Rd_not rfl) rfl (hp _ _) ?_
     refine WJ_done (by kernel_rfl) ?_
     refine Ps_next hK15 ?_
     refine WC_cond rfl (fun hc2 => ?_) (fun hc2 => ?_)
     ·try simp only [dz, ne_eq] at hc2
      have hge : vA w (f + c) ≤ vA w (f + r) := by unfold vA at *; omega
      refine WC_ret ?_
      exact hret.go ⟨w, hsw, hpX_end hx fun e h1 h2 => Nat.le_trans (hmx e h1 h2) hge⟩ (Rs0 rfl)
     ·try simp only [dz, ne_eq] at hc2
      have hlt : vA w (f + r) ≤ vA w (f + c) := by unfold vA at *; omega
      refine WC_skip ?_
      refine Ps_next hK14 ?_
      refine WC_seq fun K16 hK16 => ?_
      refine WC_drawA mix (fun i => ([2, 2, 2, 2, 2, 2, 2, 2, 2, 2, 2, 2, 2, 2, 2, 2, 2, 2, 2, 2, 2, 0, 2, 0] : List Nat).getD i 0) ?_
      refine WJ_tp 0 rfl (Rd_move rfl) rfl (hp _ _) ?_
      refine WJ_tp 1 rfl (Rd_move rfl) rfl (hp _ _) ?_
      refine WJ_tp 2 rfl (Rd_move rfl) rfl (hp _ _) ?_
      refine WJ_tp 3 rfl (Rd_addN rfl rfl) rfl (hp _ _) ?_
      refine WJ_tp 4 rfl (Rd_move rfl) rfl (hp _ _) ?_
      refine WJ_tp 5 rfl (Rd_move rfl) rfl (hp _ _) ?_
      refine WJ_tp 6 rfl (Rd_move rfl) rfl (hp _ _) ?_
      refine WJ_tp 7 rfl (Rd_addN rfl rfl) rfl (hp _ _) ?_
      refine WJ_tp 8 rfl (Rd_move rfl) rfl (hp _ _) ?_
      refine WJ_tp 9 rfl (Rd_move rfl) rfl (hp _ _) ?_
      refine WJ_tp 10 rfl (Rd_move rfl) rfl (hp _ _) ?_
      refine WJ_tp 11 rfl (Rd_addN rfl rfl) rfl (hp _ _) ?_
      refine WJ_tp 12 rfl (Rd_index (f + c) rfl rfl ud99 sz25 (hj := by omega)) rfl (hp _ _) ?_
      refine WJ_tk 13 (Rd_load_arr (i := f + c) (j := 0) rfl tk25 (hl := getA (l := w) (by omega))) hp ?_ rfl (by kernel_rfl) rfl rfl rfl
      refine WJ_tp 14 rfl (Rd_move rfl) rfl (hp _ _) ?_
      refine WJ_tp 15 rfl (Rd_move rfl) rfl (hp _ _) ?_
      refine WJ_tp 16 rfl (Rd_move rfl) rfl (hp _ _) ?_
      refine WJ_tp 17 rfl (Rd_addN rfl rfl) rfl (hp _ _) ?_
      refine WJ_tp 18 rfl (Rd_index (f + r) rfl rfl ud99 sz25 (hj := by omega)) rfl (hp _ _) ?_
      refine WJ_tk 19 (Rd_load_arr (i := f + r) (j := 0) rfl tk25 (hl := getA (l := w) (by omega))) hp ?_ rfl (by kernel_rfl) rfl rfl rfl
      refine WJ_tp 20 rfl (Rd_index (f + r) rfl rfl ud99 sz25 (hj := by omega)) rfl (hp _ _) ?_
      refine WJ_all (rs := [21]) (by kernel_rfl) rfl ?_
      refine WI_one ?_
      refine WI_ac0 rfl (Ac_store_arr (w.getD (f + c) 0#32) rfl rfl sz25 (i := f + r) (j := 0) (hl := getA (l := w) (by omega))) rfl rfl rfl ?_
      rintro _ _ rfl
      refine ⟨(fun h => by cases h), ?_⟩
      refine WJ_tp 22 rfl (Rd_index (f + c) rfl rfl ud99 sz25 (hj := by omega)) rfl (hp _ _) ?_
      refine WJ_all (rs := [23]) (by kernel_rfl) rfl ?_
      refine WI_one ?_
      refine WI_ac0 rfl (Ac_store_arr (w.getD (f + r) 0#32) rfl rfl sz25 (i := f + c) (j := 0) (hl := getA (by rw [List.length_set]; omega))) rfl rfl rfl ?_
      rintro _ _ rfl
      refine ⟨(fun h => by cases h), ?_⟩
      refine WJ_done (by kernel_rfl) ?_
      refine Ps_next hK16 ?_
      refine WC_region ?_
      rw [show (w.set (f + r) (w.getD (f + c) 0#32)).set (f + c) (w.getD (f + r) 0#32) = swA w (f + r) (f + c) from rfl]
      refine WL_r (Rd_move rfl) rfl ?_
      refine WL_r (Rd_assign rfl) rfl ?_
      refine WL_nil ?_
      refine Ps_wkA (hK2 ⟨c, swA w (f + r) (f + c)⟩ (⟨by (try dsimp only); omega, hpX_step hx (by omega) hc.1 hc.2 hlt hmx, .step hsw (by omega) (by omega) (by omega) (by omega), by (try dsimp only); rw [swA_len]; exact hwl⟩) (by (try dsimp only); omega))

theorem heap_ct {ga cap n a b : Nat} {l : List B32} (hl : l.length = n) (hn : n ≤ 1000) (hab : a < b) (hb : b ≤ n) : Ct Try.prog 79 [sl (some ga) n cap, .int .i64 ((a : Nat) : Int), .int .i64 ((b : Nat) : Int)] [arr (some ga) cap 1 25 (eU .u32 (w := 32)) l] (fun g : {m : List B32 // SwR a b l m ∧ ordS m a b} => .tuple #[]) (fun g => [arr (some ga) cap 1 25 (eU .u32 (w := 32)) g.1]) := by
 refine Ct_body (n := 56) Try.func79 rfl rfl rfl fun F w0 Q hret hnorm hp => ?_
 change WC _ _ _ _ _ _ _ (_ :: F)
 refine WC_sr fun K1 hK1 => ?_
 refine WL_r (Rd_move rfl) rfl ?_
 refine WL_r (Rd_assign rfl) rfl ?_
 refine WL_end hK1 ?_
 refine WC_sr fun K2 hK2 => ?_
 refine WL_r (Rd_assign rfl) rfl ?_
 refine WL_end hK2 ?_
 refine WC_sr fun K3 hK3 => ?_
 refine WL_r (Rd_move rfl) rfl ?_
 refine WL_r (Rd_move rfl) rfl ?_
 refine WL_r (Rd_subN rfl rfl) rfl ?_
 refine WL_r (Rd_assign rfl) rfl ?_
 refine WL_end hK3 ?_
 refine WC_seq fun K4 hK4 => ?_
 refine WC_sr fun K5 hK5 => ?_
 refine WL_r (Rd_move rfl) rfl ?_
 refine WL_r (Rd_subN (j := 1) rfl rfl) rfl ?_
 refine WL_r (Rd_quoN (j := 2) rfl rfl) rfl ?_
 refine WL_r (Rd_valE (v := .int .i64 ((((b - a - 1) / 2 + 1 : Nat) : Int) - 1)) (Rd_assign rfl) (by congr 1; omega)) rfl ?_
 refine WL_end hK5 ?_
 refine WC_block ?_
 refine WC_loopK (σ := Nat × (List B32)) (fun ⟨c, w⟩ => [(9, .int .i64 (((c : Nat) : Int) - 1))]) (fun ⟨c, w⟩ => [arr (some ga) cap 1 25 (eU .u32 (w := 32)) w]) (fun ⟨c, w⟩ => c ≤ 1000 ∧ SwR a b l w ∧ hpF w a c (b - a) ∧ w.length = n) (fun ⟨c, w⟩ => c) ⟨(b - a - 1) / 2 + 1, l⟩ [0, 6, 7, 8, 10, 27, 28, 29, 30, 31, 32, 33, 34, 35, 36, 37, 38, 39, 40, 41, 42, 43, 44, 45, 46, 47, 48, 49, 50, 51, 52, 53, 54] kpA (by (try dsimp only); repeat (first | with_reducible exact Gv.nil | (with_reducible apply Gv.cons; · (repeat (first | with_reducible exact Ext.here | with_reducible apply Ext.there))))) ?_ ?_ Sub.refl ?_
 ·exact ⟨by omega, .refl, hpF_none (by omega), hl⟩
 ·(try dsimp only); exact (Wk.cons lkA Wk.nil)
 ·rintro ⟨c, w⟩ ⟨hc, hsw, hhp, hwl⟩ K6 hK6
  simp only [List.cons_append, List.nil_append]
  refine WC_seq fun K7 hK7 => ?_
  refine WC_sr fun K8 hK8 => ?_
  refine WL_r (Rd_move rfl) rfl ?_
  refine WL_r (Rd_geq rfl rfl) rfl ?_
  refine WL_end hK8 ?_
  refine WC_cond rfl (fun hc0 => ?_) (fun hc0 => ?_)
  ·try simp only [dz, ne_eq] at hc0
   obtain ⟨k, rfl⟩ : ∃ k, c = k + 1 := ⟨c - 1, by omega⟩
   refine WC_skip ?_
   refine Ps_next hK7 ?_
   refine WC_seq fun K9 hK9 => ?_
   refine WC_block ?_
   refine WC_region ?_
   refine WL_r (Rd_move rfl) rfl ?_
   refine WL_r (Rd_valE (v := .int .i64 ((k : Nat) : Int)) (Rd_move rfl) (by congr 1; omega)) rfl ?_
   refine WL_r (Rd_move rfl) rfl ?_
   refine WL_r (Rd_move rfl) rfl ?_
   refine WL_ac (Ac_call cf101 rfl (hs := sift_ct (l := w) (lo := k) (hi := b - a) (f := a) hwl hn (by omega) (by omega) hhp)) rfl rfl rfl ?_
   rintro _ _ ⟨⟨m, hsm, hhm⟩, rfl, hA⟩
   simp only [List.cons_append, List.nil_append] at hA
   replace hA := hA.symm
   subst hA
   refine WL_nil ?_
   refine Ps_next hK9 ?_
   refine WC_region ?_
   refine WL_r (Rd_move rfl) rfl ?_
   refine WL_r (Rd_sub' (r := ((k : Nat) : Int) - 1) rfl rfl (wr64 (by omega) (by omega) (by omega))) rfl ?_
   refine WL_r (Rd_assign rfl) rfl ?_
   refine WL_nil ?_
   refine Ps_wkA (hK6 ⟨k, m⟩ (⟨by (try dsimp only); omega, hsw.trans (hsm.wide (Nat.le_refl _) (by omega)), hhm, by (try dsimp only); rw [hsm.len]; exact hwl⟩) (by (try dsimp only); omega))
  ·try simp only [dz, ne_eq] at hc0
   obtain rfl : c = 0 := by omega
   refine WC_exit ?_
   refine Ps_next hK4 ?_
   refine WC_sr fun K10 hK10 => ?_
   refine WL_r (Rd_move rfl) rfl ?_
   refine WL_r (Rd_subN (j := 1) rfl rfl) rfl ?_
   refine WL_r (Rd_valE (v := .int .i64 (((b - a : Nat) : Int) - 1)) (Rd_assign rfl) (by congr 1; omega)) rfl ?_
   refine WL_end hK10 ?_
   refine WC_block ?_
   refine WC_loopK (σ := Nat × (List B32)) (fun ⟨e, w⟩ => [(10, .int .i64 (((e : Nat) : Int) - 1))]) (fun ⟨e, w⟩ => [arr (some ga) cap 1 25 (eU .u32 (w := 32)) w]) (fun ⟨e, w⟩ => e ≤ b - a ∧ SwR a b l w ∧ hpF w a 0 e ∧ ordO w a (a + (b - a)) a (a + e) ∧ w.length = n) (fun ⟨e, w⟩ => e) ⟨b - a, w⟩ [0, 6, 7] kpA (by (try dsimp only); repeat (first | with_reducible exact Gv.nil | (with_reducible apply Gv.cons; · (repeat (first | with_reducible exact Ext.here | with_reducible apply Ext.there))))) ?_ ?_ Sub.refl ?_
   ·exact ⟨Nat.le_refl _, hsw, hhp, ordO_nil, hwl⟩
   ·(try dsimp only); exact (Wk.cons lkA Wk.nil)
   ·rintro ⟨e, w⟩ ⟨he, hsw, hhp, hor, hwl⟩ K11 hK11
    simp only [List.cons_append, List.nil_append]
    refine WC_seq fun K12 hK12 => ?_
    refine WC_sr fun K13 hK13 => ?_
    refine WL_r (Rd_move rfl) rfl ?_
    refine WL_r (Rd_geq rfl rfl) rfl ?_
    refine WL_end hK13 ?_
    refine WC_cond rfl (fun hc1 => ?_) (fun hc1 => ?_)
    ·try simp only [dz, ne_eq] at hc1
     obtain ⟨k, rfl⟩ : ∃ k, e = k + 1 := ⟨e - 1, by omega⟩
     refine WC_skip ?_
     refine Ps_next hK12 ?_
     refine WC_seq fun K14 hK14 => ?_
     refine WC_block ?_
     refine WC_seq fun K15 hK15 => ?_
     refine WC_drawA mix (fun i => ([2, 2, 2, 2, 2, 2, 2, 2, 2, 2, 2, 2, 2, 2, 2, 2, 2, 0, 2, 0] : List Nat).getD i 0) ?_
     refine WJ_tp 0 rfl (Rd_move rfl) rfl (hp _ _) ?_
     refine WJ_tp 1 rfl (Rd_move rfl) rfl (hp _ _) ?_
     refine WJ_tp 2 rfl (Rd_move rfl) rfl (hp _ _) ?_
     refine WJ_tp 3 rfl (Rd_move rfl) rfl (hp _ _) ?_
     refine WJ_tp 4 rfl (Rd_valE (v := .int .i64 ((k : Nat) : Int)) (Rd_move rfl) (by congr 1; omega)) rfl (hp _ _) ?_
     refine WJ_tp 5 rfl (Rd_addN rfl rfl) rfl (hp _ _) ?_
     refine WJ_tp 6 rfl (Rd_move rfl) rfl (hp _ _) ?_
     refine WJ_tp 7 rfl (Rd_move rfl) rfl (hp _ _) ?_
     refine WJ_tp 8 rfl (Rd_valE (v := .int .i64 ((k : Nat) : Int)) (Rd_move rfl) (by congr 1; omega)) rfl (hp _ _) ?_
     refine WJ_tp 9 rfl (Rd_addN rfl rfl) rfl (hp _ _) ?_
     refine WJ_tp 10 rfl (Rd_index (a + k) rfl rfl ud99 sz25 (hj := by omega)) rfl (hp _ _) ?_
     refine WJ_tk 11 (Rd_load_arr (i := a + k) (j := 0) rfl tk25 (hl := getA (l := w) (by omega))) hp ?_ rfl (by kernel_rfl) rfl rfl rfl
     refine WJ_tp 12 rfl (Rd_move rfl) rfl (hp _ _) ?_
     refine WJ_tp 13 rfl (Rd_move rfl) rfl (hp _ _) ?_
     refine WJ_tp 14 rfl (Rd_index (a) rfl rfl ud99 sz25 (hj := by omega)) rfl (hp _ _) ?_
     refine WJ_tk 15 (Rd_load_arr (i := a) (j := 0) rfl tk25 (hl := getA (l := w) (by omega))) hp ?_ rfl (by kernel_rfl) rfl rfl rfl
     refine WJ_tp 16 rfl (Rd_index (a) rfl rfl ud99 sz25 (hj := by omega)) rfl (hp _ _) ?_
     refine WJ_all (rs := [17]) (by kernel_rfl) rfl ?_
     refine WI_one ?_
     refine WI_ac0 rfl (Ac_store_arr (w.getD (a + k) 0#32) rfl rfl sz25 (i := a) (j := 0) (hl := getA (l := w) (by omega))) rfl rfl rfl ?_
     rintro _ _ rfl
     refine ⟨(fun h => by cases h), ?_⟩
     refine WJ_tp 18 rfl (Rd_index (a + k) rfl rfl ud99 sz25 (hj := by omega)) rfl (hp _ _) ?_
     refine WJ_all (rs := [19]) (by kernel_rfl) rfl ?_
     refine WI_one ?_
     refine WI_ac0 rfl (Ac_store_arr (w.getD (a) 0#32) rfl rfl sz25 (i := a + k) (j := 0) (hl := getA (by rw [List.length_set]; omega))) rfl rfl rfl ?_
     rintro _ _ rfl
     refine ⟨(fun h => by cases h), ?_⟩
     refine WJ_done (by kernel_rfl) ?_
     refine Ps_next hK15 ?_
     refine WC_region ?_
     rw [show (w.set (a) (w.getD (a + k) 0#32)).set (a + k) (w.getD (a) 0#32) = swA w (a) (a + k) from rfl]
     refine WL_r (Rd_move rfl) rfl ?_
     refine WL_r (Rd_move rfl) rfl ?_
     refine WL_r (Rd_valE (v := .int .i64 ((k : Nat) : Int)) (Rd_move rfl) (by congr 1; omega)) rfl ?_
     refine WL_r (Rd_move rfl) rfl ?_
     refine WL_ac (Ac_call cf101 rfl (hs := sift_ct (l := swA w a (a + k)) (lo := 0) (hi := k) (f := a) (by rw [swA_len]; exact hwl) hn (by omega) (by omega) (hpF_swap hhp (by omega)))) rfl rfl rfl ?_
     rintro _ _ ⟨⟨m, hsm, hhm⟩, rfl, hA⟩
     simp only [List.cons_append, List.nil_append] at hA
     replace hA := hA.symm
     subst hA
     refine WL_nil ?_
     refine Ps_next hK14 ?_
     refine WC_region ?_
     refine WL_r (Rd_move rfl) rfl ?_
     refine WL_r (Rd_sub' (r := ((k : Nat) : Int) - 1) rfl rfl (wr64 (by omega) (by omega) (by omega))) rfl ?_
     refine WL_r (Rd_assign rfl) rfl ?_
     refine WL_nil ?_
     refine Ps_wkA (hK11 ⟨k, m⟩ (⟨by (try dsimp only); omega, (SwR.step hsw (by omega) (by omega) (by omega) (by omega)).trans (hsm.wide (Nat.le_refl _) (by omega)), hhm, ordO_sw (ordO_swap hhp hor (by omega) (by omega)) hsm (Nat.le_refl _) (by omega) (by rw [swA_len]; omega), by (try dsimp only); rw [hsm.len, swA_len]; exact hwl⟩) (by (try dsimp only); omega))
    ·try simp only [dz, ne_eq] at hc1
     obtain rfl : e = 0 := by omega
     refine WC_exit ?_
     exact hnorm.go ⟨w, hsw, fun p q h0 h1 h2 => hor p q h0 h1 (by omega) (.inr (by omega))⟩ (Rs0 rfl)
end Go.Proofs.Ytoakfknnaiapiaa
