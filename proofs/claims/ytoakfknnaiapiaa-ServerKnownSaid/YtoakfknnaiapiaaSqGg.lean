/-
  Contracts of functions that the claim reaches, or the logic and the plain laws that they rest on, or the row over them. (Conditions: none beyond the statement.)
-/
import Derived.Test.YtoakfknnaiapiaaSqGf
set_option linter.all false
namespace Go.Proofs.Ytoakfknnaiapiaa
open Go.RowKit Go.SL Go.ShM Go.SvM
set_option maxHeartbeats 1000000
set_option maxRecDepth 20000
set_option linter.all false

theorem part_ct {ga cap n a b : Nat} {l : List B32} {p : Nat} (hl : l.length = n) (hn : n ≤ 1000) (hap : a ≤ p) (hpb : p < b) (hb : b ≤ n) : Ct Try.prog 86 [sl (some ga) n cap, .int .i64 ((a : Nat) : Int), .int .i64 ((b : Nat) : Int), .int .i64 ((p : Nat) : Int)] [arr (some ga) cap 1 25 (eU .u32 (w := 32)) l] (fun g : {q : Nat × Bool × List B32 // SwR a b l q.2.2 ∧ Cut q.2.2 a b q.1} => .tuple #[.int .i64 ((g.1.1 : Nat) : Int), .bool g.1.2.1]) (fun g => [arr (some ga) cap 1 25 (eU .u32 (w := 32)) g.1.2.2]) := by
 refine Ct_body (n := 168) Try.func86 rfl rfl rfl fun F w0 Q hret hnorm hp => ?_
 change WC _ _ _ _ _ _ _ (_ :: F)
 refine WC_sr fun K1 hK1 => ?_
 refine WL_r (Rd_assign rfl) rfl ?_
 refine WL_r (Rd_assign rfl) rfl ?_
 refine WL_end hK1 ?_
 refine WC_seq fun K2 hK2 => ?_
 refine WC_drawA mix (fun i => ([2, 2, 2, 2, 2, 2, 2, 2, 2, 2, 2, 2, 2, 0, 2, 0] : List Nat).getD i 0) ?_
 refine WJ_tp 0 rfl (Rd_move rfl) rfl (hp _ _) ?_
 refine WJ_tp 1 rfl (Rd_move rfl) rfl (hp _ _) ?_
 refine WJ_tp 2 rfl (Rd_move rfl) rfl (hp _ _) ?_
 refine WJ_tp 3 rfl (Rd_move rfl) rfl (hp _ _) ?_
 refine WJ_tp 4 rfl (Rd_move rfl) rfl (hp _ _) ?_
 refine WJ_tp 5 rfl (Rd_move rfl) rfl (hp _ _) ?_
 refine WJ_tp 6 rfl (Rd_index (p) rfl rfl ud99 sz25 (hj := by omega)) rfl (hp _ _) ?_
 refine WJ_tk 7 (Rd_load_arr (i := p) (j := 0) rfl tk25 (hl := getA (l := l) (by omega))) hp ?_ rfl (by kernel_rfl) rfl rfl rfl
 refine WJ_tp 8 rfl (Rd_move rfl) rfl (hp _ _) ?_
 refine WJ_tp 9 rfl (Rd_move rfl) rfl (hp _ _) ?_
 refine WJ_tp 10 rfl (Rd_index (a) rfl rfl ud99 sz25 (hj := by omega)) rfl (hp _ _) ?_
 refine WJ_tk 11 (Rd_load_arr (i := a) (j := 0) rfl tk25 (hl := getA (l := l) (by omega))) hp ?_ rfl (by kernel_rfl) rfl rfl rfl
 refine WJ_tp 12 rfl (Rd_index (a) rfl rfl ud99 sz25 (hj := by omega)) rfl (hp _ _) ?_
 refine WJ_all (rs := [13]) (by kernel_rfl) rfl ?_
 refine WI_one ?_
 refine WI_ac0 rfl (Ac_store_arr (l.getD (p) 0#32) rfl rfl sz25 (i := a) (j := 0) (hl := getA (l := l) (by omega))) rfl rfl rfl ?_
 rintro _ _ rfl
 refine ⟨(fun h => by cases h), ?_⟩
 refine WJ_tp 14 rfl (Rd_index (p) rfl rfl ud99 sz25 (hj := by omega)) rfl (hp _ _) ?_
 refine WJ_all (rs := [15]) (by kernel_rfl) rfl ?_
 refine WI_one ?_
 refine WI_ac0 rfl (Ac_store_arr (l.getD (a) 0#32) rfl rfl sz25 (i := p) (j := 0) (hl := getA (by rw [List.length_set]; omega))) rfl rfl rfl ?_
 rintro _ _ rfl
 refine ⟨(fun h => by cases h), ?_⟩
 refine WJ_done (by kernel_rfl) ?_
 refine Ps_next hK2 ?_
 refine WC_sr fun K3 hK3 => ?_
 rw [show (l.set (a) (l.getD (p) 0#32)).set (p) (l.getD (a) 0#32) = swA l (a) (p) from rfl]
 obtain ⟨w, hw⟩ : ∃ w, w = swA l a p := ⟨_, rfl⟩
 rw [← hw]
 have hwl : w.length = n := by rw [hw, swA_len]; exact hl
 have hsw : SwR a b l w := by rw [hw]; exact .step .refl (by omega) (by omega) hap hpb
 clear hw
 refine WL_r (Rd_move rfl) rfl ?_
 refine WL_r (Rd_addN (j := 1) rfl rfl) rfl ?_
 refine WL_r (Rd_move rfl) rfl ?_
 refine WL_r (Rd_subN (j := 1) rfl rfl) rfl ?_
 refine WL_r (Rd_assign rfl) rfl ?_
 refine WL_r (Rd_assign rfl) rfl ?_
 refine WL_end hK3 ?_
 refine WC_seq fun K4 hK4 => ?_
 refine WC_meet (B0 := []) (σ := Nat) (fun i => [(10, .int .i64 ((i : Nat) : Int))]) (fun i => []) (fun i => (a + 1 ≤ i ∧ i ≤ b) ∧ LoI w a i ∧ (i ≤ b - 1 → vA w a ≤ vA w i)) [0, 1, 8, 9, 11, 46, 47, 48, 49, 50, 51, 52, 53, 54, 55, 56, 57, 58, 59, 60, 61, 62, 63, 64, 65, 66, 67, 68, 69, 70, 71, 72, 73, 74, 75, 76, 77, 78, 79, 80, 81, 82, 83, 84, 85, 86, 87, 88, 89, 90, 91, 92, 93, 94, 95, 96, 97, 98, 99, 100, 101, 102, 103, 104, 105, 106, 107, 108, 109, 110, 111, 112, 113, 114, 115, 116, 117, 118, 119, 120, 121, 122, 123, 124, 125, 126, 127, 128, 129, 130, 131, 132, 133, 134, 135, 136, 137, 138, 139, 140, 141, 142, 143, 144, 145, 146, 147, 148, 149, 150, 151, 152, 153, 154, 155, 156, 157, 158, 159, 160, 161, 162, 163, 164, 165, 166, 167] kpA (by (try dsimp only); repeat (first | with_reducible exact Gv.nil | (with_reducible apply Gv.cons; · (repeat (first | with_reducible exact Ext.here | with_reducible apply Ext.there))))) ?_ ?_
 ·intro hK5
  refine WC_block ?_
  refine WC_loopK (σ := Nat) (fun i => [(10, .int .i64 ((i : Nat) : Int))]) (fun i => []) (fun i => (a + 1 ≤ i ∧ i ≤ b) ∧ LoI w a i) (fun i => b - i) (a + 1) [0, 1, 8, 9, 11, 46, 47, 48, 49, 50, 51, 52, 53, 54, 55, 56, 57, 58, 59, 60, 61, 62, 63, 64, 65, 66, 67, 68, 69, 70, 71, 72, 73, 74, 75, 76, 77, 78, 79, 80, 81, 82, 83, 84, 85, 86, 87, 88, 89, 90, 91, 92, 93, 94, 95, 96, 97, 98, 99, 100, 101, 102, 103, 104, 105, 106, 107, 108, 109, 110, 111, 112, 113, 114, 115, 116, 117, 118, 119, 120, 121, 122, 123, 124, 125, 126, 127, 128, 129, 130, 131, 132, 133, 134, 135, 136, 137, 138, 139, 140, 141, 142, 143, 144, 145, 146, 147, 148, 149, 150, 151, 152, 153, 154, 155, 156, 157, 158, 159, 160, 161, 162, 163, 164, 165, 166, 167] kpA (by (try dsimp only); repeat (first | with_reducible exact Gv.nil | (with_reducible apply Gv.cons; · (repeat (first | with_reducible exact Ext.here | with_reducible apply Ext.there))))) ?_ ?_ Sub.refl ?_
  ·exact ⟨by omega, fun k h1 h2 => by omega⟩
  ·(try dsimp only); exact (Wk.cons lkA Wk.nil)
  ·rintro i ⟨hi, hlo⟩ K6 hK6
   simp only [List.cons_append, List.nil_append]
   refine WC_seq fun K7 hK7 => ?_
   refine WC_seq fun K8 hK8 => ?_
   refine WC_draw mix [arr (some ga) cap 1 25 (eU .u32 (w := 32)) w] (fun i => ([2, 2, 2, 2, 2, 2, 2, 2, 2, 2, 2, 2, 1, 2] : List Nat).getD i 0) ?_
   refine WJ_tp 0 rfl (Rd_move rfl) rfl (hp _ _) ?_
   refine WJ_tp 1 rfl (Rd_move rfl) rfl (hp _ _) ?_
   refine WJ_tp 2 rfl (Rd_leqN rfl rfl) rfl (hp _ _) ?_
   refine WJ_tp 3 rfl (Rd_move rfl) rfl (hp _ _) ?_
   refine WJ_bool 33 rfl (fun hg9 => ?_) (fun hg9 => ?_)
   ·try simp only [dz, ne_eq] at hg9
    refine WJ_tp 4 rfl (Rd_move rfl) rfl (hp _ _) ?_
    refine WJ_tp 5 rfl (Rd_move rfl) rfl (hp _ _) ?_
    refine WJ_tp 6 rfl (Rd_index (i) rfl rfl ud99 sz25 (hj := by omega)) rfl (hp _ _) ?_
    refine WJ_tk 7 (Rd_load_arr (i := i) (j := 0) rfl tk25 (hl := getA (l := w) (by omega))) hp ?_ rfl (by kernel_rfl) rfl rfl rfl
    refine WJ_tp 8 rfl (Rd_move rfl) rfl (hp _ _) ?_
    refine WJ_tp 9 rfl (Rd_move rfl) rfl (hp _ _) ?_
    refine WJ_tp 10 rfl (Rd_index (a) rfl rfl ud99 sz25 (hj := by omega)) rfl (hp _ _) ?_
    refine WJ_tk 11 (Rd_load_arr (i := a) (j := 0) rfl tk25 (hl := getA (l := w) (by omega))) hp ?_ rfl (by kernel_rfl) rfl rfl rfl
    refine WJ_all (rs := [12]) (by kernel_rfl) rfl ?_
    refine WI_one ?_
    refine WI_ac rfl (Ac_call cf84 rfl (hs := lessW_ct (x := w.getD (i) 0#32) (y := w.getD (a) 0#32))) rfl rfl rfl rfl ?_
    rintro _ _ ⟨⟨⟩, rfl, hA⟩
    simp only [List.cons_append, List.nil_append] at hA
    replace hA := hA.symm
    subst hA
    refine ⟨(fun _ => subA), ?_⟩
    refine WJ_tp 13 rfl (Rd_pickT rfl rfl) rfl (hp _ _) ?_
    refine WJ_done (by kernel_rfl) ?_
    refine Ps_next hK8 ?_
    refine WC_cond rfl (fun hc0 => ?_) (fun hc0 => ?_)
    ·try simp only [dz, ne_eq] at hc0
     have hli : vA w i ≤ vA w a := by unfold vA at *; omega
     refine WC_skip ?_
     refine Ps_next hK7 ?_
     refine WC_block ?_
     refine WC_region ?_
     refine WL_r (Rd_move rfl) rfl ?_
     refine WL_r (Rd_addN (j := 1) rfl rfl) rfl ?_
     refine WL_r (Rd_assign rfl) rfl ?_
     refine WL_nil ?_
     refine Ps_wkA (hK6 (i + 1) (⟨by omega, LoI_snoc hlo hli⟩) (by omega))
    ·try simp only [dz, ne_eq] at hc0
     have hI : i ≤ b - 1 → vA w a ≤ vA w i := by unfold vA at *; omega
     refine WC_exit ?_
     refine Ps_wkA (hK5 (i) (⟨hi, hlo, hI⟩))
   ·try simp only [dz, ne_eq] at hg9
    refine WJ_skip 4 rfl (by kernel_rfl) rfl rfl rfl (hp _ _) ?_
    refine WJ_skip 5 rfl (by kernel_rfl) rfl rfl rfl (hp _ _) ?_
    refine WJ_skip 6 rfl (by kernel_rfl) rfl rfl rfl (hp _ _) ?_
    refine WJ_skip 7 rfl (by kernel_rfl) rfl rfl rfl (hp _ _) ?_
    refine WJ_skip 8 rfl (by kernel_rfl) rfl rfl rfl (hp _ _) ?_
    refine WJ_skip 9 rfl (by kernel_rfl) rfl rfl rfl (hp _ _) ?_
    refine WJ_skip 10 rfl (by kernel_rfl) rfl rfl rfl (hp _ _) ?_
    refine WJ_skip 11 rfl (by kernel_rfl) rfl rfl rfl (hp _ _) ?_
    refine WJ_all (rs := [12]) (by kernel_rfl) rfl ?_
    refine WI_one ?_
    refine WI_skip rfl rfl rfl rfl (fun _ => subA) ?_
    refine WJ_tp 13 rfl (Rd_pickF rfl rfl) rfl (hp _ _) ?_
    refine WJ_done (by kernel_rfl) ?_
    refine Ps_next hK8 ?_
    refine WC_condF rfl ?_
    have hI : i ≤ b - 1 → vA w a ≤ vA w i := by unfold vA at *; omega
    refine WC_exit ?_
    refine Ps_wkA (hK5 (i) (⟨hi, hlo, hI⟩))
 ·rintro i ⟨hi, hlo, hI⟩
  simp only [List.cons_append, List.nil_append]
  refine Ps_next hK4 ?_
  refine WC_seq fun K10 hK10 => ?_
  refine WC_meet (B0 := []) (σ := Nat) (fun j => [(11, .int .i64 ((j : Nat) : Int))]) (fun j => []) (fun j => (i ≤ j + 1 ∧ j < b) ∧ HiJ w a j b ∧ (i ≤ j → vA w j < vA w a)) [0, 1, 8, 9, 10, 63, 64, 65, 66, 67, 68, 69, 70, 71, 72, 73, 74, 75, 76, 77, 78, 79, 80, 81, 82, 83, 84, 85, 86, 87, 88, 89, 90, 91, 92, 93, 94, 95, 96, 97, 98, 99, 100, 101, 102, 103, 104, 105, 106, 107, 108, 109, 110, 111, 112, 113, 114, 115, 116, 117, 118, 119, 120, 121, 122, 123, 124, 125, 126, 127, 128, 129, 130, 131, 132, 133, 134, 135, 136, 137, 138, 139, 140, 141, 142, 143, 144, 145, 146, 147, 148, 149, 150, 151, 152, 153, 154, 155, 156, 157, 158, 159, 160, 161, 162, 163, 164, 165, 166, 167] kpA (by (try dsimp only); repeat (first | with_reducible exact Gv.nil | (with_reducible apply Gv.cons; · (repeat (first | with_reducible exact Ext.here | with_reducible apply Ext.there))))) ?_ ?_
  ·intro hK11
   refine WC_block ?_
   refine WC_loopK (σ := Nat) (fun j => [(11, .int .i64 ((j : Nat) : Int))]) (fun j => []) (fun j => (i ≤ j + 1 ∧ j < b) ∧ HiJ w a j b) (fun j => j) (b - 1) [0, 1, 8, 9, 10, 63, 64, 65, 66, 67, 68, 69, 70, 71, 72, 73, 74, 75, 76, 77, 78, 79, 80, 81, 82, 83, 84, 85, 86, 87, 88, 89, 90, 91, 92, 93, 94, 95, 96, 97, 98, 99, 100, 101, 102, 103, 104, 105, 106, 107, 108, 109, 110, 111, 112, 113, 114, 115, 116, 117, 118, 119, 120, 121, 122, 123, 124, 125, 126, 127, 128, 129, 130, 131, 132, 133, 134, 135, 136, 137, 138, 139, 140, 141, 142, 143, 144, 145, 146, 147, 148, 149, 150, 151, 152, 153, 154, 155, 156, 157, 158, 159, 160, 161, 162, 163, 164, 165, 166, 167] kpA (by (try dsimp only); repeat (first | with_reducible exact Gv.nil | (with_reducible apply Gv.cons; · (repeat (first | with_reducible exact Ext.here | with_reducible apply Ext.there))))) ?_ ?_ Sub.refl ?_
   ·exact ⟨by omega, fun k h1 h2 => by omega⟩
   ·(try dsimp only); exact (Wk.cons lkA Wk.nil)
   ·rintro j ⟨hj, hhi⟩ K12 hK12
    simp only [List.cons_append, List.nil_append]
    refine WC_seq fun K13 hK13 => ?_
    refine WC_seq fun K14 hK14 => ?_
    refine WC_draw mix [arr (some ga) cap 1 25 (eU .u32 (w := 32)) w] (fun i => ([2, 2, 2, 2, 2, 2, 2, 2, 2, 2, 2, 2, 1, 2, 2] : List Nat).getD i 0) ?_
    refine WJ_tp 0 rfl (Rd_move rfl) rfl (hp _ _) ?_
    refine WJ_tp 1 rfl (Rd_move rfl) rfl (hp _ _) ?_
    refine WJ_tp 2 rfl (Rd_leqN rfl rfl) rfl (hp _ _) ?_
    refine WJ_tp 3 rfl (Rd_move rfl) rfl (hp _ _) ?_
    refine WJ_bool 49 rfl (fun hg15 => ?_) (fun hg15 => ?_)
    ·try simp only [dz, ne_eq] at hg15
     refine WJ_tp 4 rfl (Rd_move rfl) rfl (hp _ _) ?_
     refine WJ_tp 5 rfl (Rd_move rfl) rfl (hp _ _) ?_
     refine WJ_tp 6 rfl (Rd_index (j) rfl rfl ud99 sz25 (hj := by omega)) rfl (hp _ _) ?_
     refine WJ_tk 7 (Rd_load_arr (i := j) (j := 0) rfl tk25 (hl := getA (l := w) (by omega))) hp ?_ rfl (by kernel_rfl) rfl rfl rfl
     refine WJ_tp 8 rfl (Rd_move rfl) rfl (hp _ _) ?_
     refine WJ_tp 9 rfl (Rd_move rfl) rfl (hp _ _) ?_
     refine WJ_tp 10 rfl (Rd_index (a) rfl rfl ud99 sz25 (hj := by omega)) rfl (hp _ _) ?_
     refine WJ_tk 11 (Rd_load_arr (i := a) (j := 0) rfl tk25 (hl := getA (l := w) (by omega))) hp ?_ rfl (by kernel_rfl) rfl rfl rfl
     refine WJ_all (rs := [12]) (by kernel_rfl) rfl ?_
     refine WI_one ?_
     refine WI_ac rfl (Ac_call cf84 rfl (hs := lessW_ct (x := w.getD (j) 0#32) (y := w.getD (a) 0#32))) rfl rfl rfl rfl ?_
     rintro _ _ ⟨⟨⟩, rfl, hA⟩
     simp only [List.cons_append, List.nil_append] at hA
     replace hA := hA.symm
     subst hA
     refine ⟨(fun _ => subA), ?_⟩
     refine WJ_tp 13 rfl (Rd_not rfl) rfl (hp _ _) ?_
     refine WJ_tp 14 rfl (Rd_pickT rfl rfl) rfl (hp _ _) ?_
     refine WJ_done (by kernel_rfl) ?_
     refine Ps_next hK14 ?_
     refine WC_cond rfl (fun hc1 => ?_) (fun hc1 => ?_)
     ·try simp only [dz, ne_eq] at hc1
      have hlj : vA w a ≤ vA w j := by unfold vA at *; omega
      refine WC_skip ?_
      refine Ps_next hK13 ?_
      refine WC_block ?_
      refine WC_region ?_
      refine WL_r (Rd_move rfl) rfl ?_
      refine WL_r (Rd_subN (j := 1) rfl rfl) rfl ?_
      refine WL_r (Rd_assign rfl) rfl ?_
      refine WL_nil ?_
      refine Ps_wkA (hK12 (j - 1) (⟨by omega, HiJ_snoc hhi hlj⟩) (by omega))
     ·try simp only [dz, ne_eq] at hc1
      have hJ : i ≤ j → vA w j < vA w a := by unfold vA at *; omega
      refine WC_exit ?_
      refine Ps_wkA (hK11 (j) (⟨hj, hhi, hJ⟩))
    ·try simp only [dz, ne_eq] at hg15
     refine WJ_skip 4 rfl (by kernel_rfl) rfl rfl rfl (hp _ _) ?_
     refine WJ_skip 5 rfl (by kernel_rfl) rfl rfl rfl (hp _ _) ?_
     refine WJ_skip 6 rfl (by kernel_rfl) rfl rfl rfl (hp _ _) ?_
     refine WJ_skip 7 rfl (by kernel_rfl) rfl rfl rfl (hp _ _) ?_
     refine WJ_skip 8 rfl (by kernel_rfl) rfl rfl rfl (hp _ _) ?_
     refine WJ_skip 9 rfl (by kernel_rfl) rfl rfl rfl (hp _ _) ?_
     refine WJ_skip 10 rfl (by kernel_rfl) rfl rfl rfl (hp _ _) ?_
     refine WJ_skip 11 rfl (by kernel_rfl) rfl rfl rfl (hp _ _) ?_
     refine WJ_all (rs := [12]) (by kernel_rfl) rfl ?_
     refine WI_one ?_
     refine WI_skip rfl rfl rfl rfl (fun _ => subA) ?_
     refine WJ_skip 13 rfl (by kernel_rfl) rfl rfl rfl (hp _ _) ?_
     refine WJ_tp 14 rfl (Rd_pickF rfl rfl) rfl (hp _ _) ?_
     refine WJ_done (by kernel_rfl) ?_
     refine Ps_next hK14 ?_
     refine WC_condF rfl ?_
     have hJ : i ≤ j → vA w j < vA w a := by unfold vA at *; omega
     refine WC_exit ?_
     refine Ps_wkA (hK11 (j) (⟨hj, hhi, hJ⟩))
  ·rintro j ⟨hj, hhi, hJ⟩
   simp only [List.cons_append, List.nil_append]
   refine Ps_next hK10 ?_
   refine WC_seq fun K16 hK16 => ?_
   refine WC_sr fun K17 hK17 => ?_
   refine WL_r (Rd_move rfl) rfl ?_
   refine WL_r (Rd_move rfl) rfl ?_
   refine WL_r (Rd_gtrN rfl rfl) rfl ?_
   refine WL_end hK17 ?_
   refine WC_cond rfl (fun hc2 => ?_) (fun hc2 => ?_)
   ·try simp only [dz, ne_eq] at hc2
    refine WC_seq fun K18 hK18 => ?_
    refine WC_drawA mix (fun i => ([2, 2, 2, 2, 2, 2, 2, 2, 2, 2, 2, 2, 2, 0, 2, 0] : List Nat).getD i 0) ?_
    refine WJ_tp 0 rfl (Rd_move rfl) rfl (hp _ _) ?_
    refine WJ_tp 1 rfl (Rd_move rfl) rfl (hp _ _) ?_
    refine WJ_tp 2 rfl (Rd_move rfl) rfl (hp _ _) ?_
    refine WJ_tp 3 rfl (Rd_move rfl) rfl (hp _ _) ?_
    refine WJ_tp 4 rfl (Rd_move rfl) rfl (hp _ _) ?_
    refine WJ_tp 5 rfl (Rd_move rfl) rfl (hp _ _) ?_
    refine WJ_tp 6 rfl (Rd_index (a) rfl rfl ud99 sz25 (hj := by omega)) rfl (hp _ _) ?_
    refine WJ_tk 7 (Rd_load_arr (i := a) (j := 0) rfl tk25 (hl := getA (l := w) (by omega))) hp ?_ rfl (by kernel_rfl) rfl rfl rfl
    refine WJ_tp 8 rfl (Rd_move rfl) rfl (hp _ _) ?_
    refine WJ_tp 9 rfl (Rd_move rfl) rfl (hp _ _) ?_
    refine WJ_tp 10 rfl (Rd_index (j) rfl rfl ud99 sz25 (hj := by omega)) rfl (hp _ _) ?_
    refine WJ_tk 11 (Rd_load_arr (i := j) (j := 0) rfl tk25 (hl := getA (l := w) (by omega))) hp ?_ rfl (by kernel_rfl) rfl rfl rfl
    refine WJ_tp 12 rfl (Rd_index (j) rfl rfl ud99 sz25 (hj := by omega)) rfl (hp _ _) ?_
    refine WJ_all (rs := [13]) (by kernel_rfl) rfl ?_
    refine WI_one ?_
    refine WI_ac0 rfl (Ac_store_arr (w.getD (a) 0#32) rfl rfl sz25 (i := j) (j := 0) (hl := getA (l := w) (by omega))) rfl rfl rfl ?_
    rintro _ _ rfl
    refine ⟨(fun h => by cases h), ?_⟩
    refine WJ_tp 14 rfl (Rd_index (a) rfl rfl ud99 sz25 (hj := by omega)) rfl (hp _ _) ?_
    refine WJ_all (rs := [15]) (by kernel_rfl) rfl ?_
    refine WI_one ?_
    refine WI_ac0 rfl (Ac_store_arr (w.getD (j) 0#32) rfl rfl sz25 (i := a) (j := 0) (hl := getA (by rw [List.length_set]; omega))) rfl rfl rfl ?_
    rintro _ _ rfl
    refine ⟨(fun h => by cases h), ?_⟩
    refine WJ_done (by kernel_rfl) ?_
    refine Ps_next hK18 ?_
    refine WC_sr fun K19 hK19 => ?_
    rw [show (w.set (j) (w.getD (a) 0#32)).set (a) (w.getD (j) 0#32) = swA w (j) (a) from rfl]
    refine WL_r (Rd_move rfl) rfl ?_
    refine WL_r (Rd_assign rfl) rfl ?_
    refine WL_r (Rd_assign rfl) rfl ?_
    refine WL_end hK19 ?_
    refine WC_ret ?_
    exact hret.go ⟨(j, true, swA w j a), .step hsw (by omega) (by omega) (by omega) (by omega), Cut_fin hlo hhi (by omega) (by omega) (by omega) (by omega)⟩ (Rs2 rfl rfl rfl)
   ·try simp only [dz, ne_eq] at hc2
    have hij : i < j := lt_of_vals (by omega) (hJ (by omega)) (hI (by omega))
    refine WC_skip ?_
    refine Ps_next hK16 ?_
    refine WC_seq fun K20 hK20 => ?_
    refine WC_drawA mix (fun i => ([2, 2, 2, 2, 2, 2, 2, 2, 2, 2, 2, 2, 2, 0, 2, 0] : List Nat).getD i 0) ?_
    refine WJ_tp 0 rfl (Rd_move rfl) rfl (hp _ _) ?_
    refine WJ_tp 1 rfl (Rd_move rfl) rfl (hp _ _) ?_
    refine WJ_tp 2 rfl (Rd_move rfl) rfl (hp _ _) ?_
    refine WJ_tp 3 rfl (Rd_move rfl) rfl (hp _ _) ?_
    refine WJ_tp 4 rfl (Rd_move rfl) rfl (hp _ _) ?_
    refine WJ_tp 5 rfl (Rd_move rfl) rfl (hp _ _) ?_
    refine WJ_tp 6 rfl (Rd_index (j) rfl rfl ud99 sz25 (hj := by omega)) rfl (hp _ _) ?_
    refine WJ_tk 7 (Rd_load_arr (i := j) (j := 0) rfl tk25 (hl := getA (l := w) (by omega))) hp ?_ rfl (by kernel_rfl) rfl rfl rfl
    refine WJ_tp 8 rfl (Rd_move rfl) rfl (hp _ _) ?_
    refine WJ_tp 9 rfl (Rd_move rfl) rfl (hp _ _) ?_
    refine WJ_tp 10 rfl (Rd_index (i) rfl rfl ud99 sz25 (hj := by omega)) rfl (hp _ _) ?_
    refine WJ_tk 11 (Rd_load_arr (i := i) (j := 0) rfl tk25 (hl := getA (l := w) (by omega))) hp ?_ rfl (by kernel_rfl) rfl rfl rfl
    refine WJ_tp 12 rfl (Rd_index (i) rfl rfl ud99 sz25 (hj := by omega)) rfl (hp _ _) ?_
    refine WJ_all (rs := [13]) (by kernel_rfl) rfl ?_
    refine WI_one ?_
    refine WI_ac0 rfl (Ac_store_arr (w.getD (j) 0#32) rfl rfl sz25 (i := i) (j := 0) (hl := getA (l := w) (by omega))) rfl rfl rfl ?_
    rintro _ _ rfl
    refine ⟨(fun h => by cases h), ?_⟩
    refine WJ_tp 14 rfl (Rd_index (j) rfl rfl ud99 sz25 (hj := by omega)) rfl (hp _ _) ?_
    refine WJ_all (rs := [15]) (by kernel_rfl) rfl ?_
    refine WI_one ?_
    refine WI_ac0 rfl (Ac_store_arr (w.getD (i) 0#32) rfl rfl sz25 (i := j) (j := 0) (hl := getA (by rw [List.length_set]; omega))) rfl rfl rfl ?_
    rintro _ _ rfl
    refine ⟨(fun h => by cases h), ?_⟩
    refine WJ_done (by kernel_rfl) ?_
    refine Ps_next hK20 ?_
    refine WC_sr fun K21 hK21 => ?_
    rw [show (w.set (i) (w.getD (j) 0#32)).set (j) (w.getD (i) 0#32) = swA w (i) (j) from rfl]
    refine WL_r (Rd_move rfl) rfl ?_
    refine WL_r (Rd_addN (j := 1) rfl rfl) rfl ?_
    refine WL_r (Rd_assign rfl) rfl ?_
    refine WL_end hK21 ?_
    refine WC_sr fun K22 hK22 => ?_
    refine WL_r (Rd_move rfl) rfl ?_
    refine WL_r (Rd_subN (j := 1) rfl rfl) rfl ?_
    refine WL_r (Rd_assign rfl) rfl ?_
    refine WL_end hK22 ?_
    refine WC_seq fun K23 hK23 => ?_
    refine WC_block ?_
    refine WC_loopK (σ := Nat × Nat × (List B32)) (fun ⟨i2, j2, v⟩ => [(10, .int .i64 ((i2 : Nat) : Int)), (11, .int .i64 ((j2 : Nat) : Int))]) (fun ⟨i2, j2, v⟩ => [arr (some ga) cap 1 25 (eU .u32 (w := 32)) v]) (fun ⟨i2, j2, v⟩ => (a + 1 ≤ i2 ∧ i2 ≤ j2 + 1 ∧ j2 < b) ∧ LoI v a i2 ∧ HiJ v a j2 b ∧ SwR a b l v ∧ v.length = n) (fun ⟨i2, j2, v⟩ => j2) ⟨i + 1, j - 1, swA w i j⟩ [0, 1, 8, 9, 153, 154, 155, 156, 157, 158, 159, 160, 161, 162, 163, 164, 165, 166, 167] kpA (by (try dsimp only); repeat (first | with_reducible exact Gv.nil | (with_reducible apply Gv.cons; · (repeat (first | with_reducible exact Ext.here | with_reducible apply Ext.there))))) ?_ ?_ Sub.refl ?_
    ·exact ⟨by omega, LoI_swap (by omega) hij (by omega) hlo (Nat.le_of_lt (hJ (by omega))), HiJ_swap (by omega) hij (by omega) hhi (hI (by omega)), .step hsw (by omega) (by omega) (by omega) (by omega), by rw [swA_len]; exact hwl⟩
    ·(try dsimp only); exact (Wk.cons lkA (Wk.cons lkA Wk.nil))
    ·rintro ⟨i2, j2, v⟩ ⟨hi2, hlo2, hhi2, hsv, hvl⟩ K24 hK24
     simp only [List.cons_append, List.nil_append]
     refine WC_block ?_
     refine WC_seq fun K25 hK25 => ?_
     refine WC_meet (B0 := []) (σ := Nat) (fun i3 => [(10, .int .i64 ((i3 : Nat) : Int))]) (fun i3 => []) (fun i3 => (a + 1 ≤ i3 ∧ i3 ≤ j2 + 1) ∧ LoI v a i3 ∧ (i3 ≤ j2 → vA v a ≤ vA v i3)) [0, 1, 8, 9, 11, 115, 116, 117, 118, 119, 120, 121, 122, 123, 124, 125, 126, 127, 128, 129, 130, 131, 132, 133, 134, 135, 136, 137, 138, 139, 140, 141, 142, 143, 144, 145, 146, 147, 148, 149, 150, 151, 152, 153, 154, 155, 156, 157, 158, 159, 160, 161, 162, 163, 164, 165, 166, 167] kpA (by (try dsimp only); repeat (first | with_reducible exact Gv.nil | (with_reducible apply Gv.cons; · (repeat (first | with_reducible exact Ext.here | with_reducible apply Ext.there))))) ?_ ?_
     ·intro hK26
      refine WC_block ?_
      refine WC_loopK (σ := Nat) (fun i3 => [(10, .int .i64 ((i3 : Nat) : Int))]) (fun i3 => []) (fun i3 => (a + 1 ≤ i3 ∧ i3 ≤ j2 + 1) ∧ LoI v a i3) (fun i3 => j2 + 1 - i3) (i2) [0, 1, 8, 9, 11, 115, 116, 117, 118, 119, 120, 121, 122, 123, 124, 125, 126, 127, 128, 129, 130, 131, 132, 133, 134, 135, 136, 137, 138, 139, 140, 141, 142, 143, 144, 145, 146, 147, 148, 149, 150, 151, 152, 153, 154, 155, 156, 157, 158, 159, 160, 161, 162, 163, 164, 165, 166, 167] kpA (by (try dsimp only); repeat (first | with_reducible exact Gv.nil | (with_reducible apply Gv.cons; · (repeat (first | with_reducible exact Ext.here | with_reducible apply Ext.there))))) ?_ ?_ Sub.refl ?_
      ·exact ⟨by omega, hlo2⟩
      ·(try dsimp only); exact (Wk.cons lkA Wk.nil)
      ·rintro i3 ⟨hi3, hlo3⟩ K27 hK27
       simp only [List.cons_append, List.nil_append]
       refine WC_seq fun K28 hK28 => ?_
       refine WC_seq fun K29 hK29 => ?_
       refine WC_draw mix [arr (some ga) cap 1 25 (eU .u32 (w := 32)) v] (fun i => ([2, 2, 2, 2, 2, 2, 2, 2, 2, 2, 2, 2, 1, 2] : List Nat).getD i 0) ?_
       refine WJ_tp 0 rfl (Rd_move rfl) rfl (hp _ _) ?_
       refine WJ_tp 1 rfl (Rd_move rfl) rfl (hp _ _) ?_
       refine WJ_tp 2 rfl (Rd_leqN rfl rfl) rfl (hp _ _) ?_
       refine WJ_tp 3 rfl (Rd_move rfl) rfl (hp _ _) ?_
       refine WJ_bool 102 rfl (fun hg30 => ?_) (fun hg30 => ?_)
       ·try simp only [dz, ne_eq] at hg30
        refine WJ_tp 4 rfl (Rd_move rfl) rfl (hp _ _) ?_
        refine WJ_tp 5 rfl (Rd_move rfl) rfl (hp _ _) ?_
        refine WJ_tp 6 rfl (Rd_index (i3) rfl rfl ud99 sz25 (hj := by omega)) rfl (hp _ _) ?_
        refine WJ_tk 7 (Rd_load_arr (i := i3) (j := 0) rfl tk25 (hl := getA (l := v) (by omega))) hp ?_ rfl (by kernel_rfl) rfl rfl rfl
        refine WJ_tp 8 rfl (Rd_move rfl) rfl (hp _ _) ?_
        refine WJ_tp 9 rfl (Rd_move rfl) rfl (hp _ _) ?_
        refine WJ_tp 10 rfl (Rd_index (a) rfl rfl ud99 sz25 (hj := by omega)) rfl (hp _ _) ?_
        refine WJ_tk 11 (Rd_load_arr (i := a) (j := 0) rfl tk25 (hl := getA (l := v) (by omega))) hp ?_ rfl (by kernel_rfl) rfl rfl rfl
        refine WJ_all (rs := [12]) (by kernel_rfl) rfl ?_
        refine WI_one ?_
        refine WI_ac rfl (Ac_call cf84 rfl (hs := lessW_ct (x := v.getD (i3) 0#32) (y := v.getD (a) 0#32))) rfl rfl rfl rfl ?_
        rintro _ _ ⟨⟨⟩, rfl, hA⟩
        simp only [List.cons_append, List.nil_append] at hA
        replace hA := hA.symm
        subst hA
        refine ⟨(fun _ => subA), ?_⟩
        refine WJ_tp 13 rfl (Rd_pickT rfl rfl) rfl (hp _ _) ?_
        refine WJ_done (by kernel_rfl) ?_
        refine Ps_next hK29 ?_
        refine WC_cond rfl (fun hc3 => ?_) (fun hc3 => ?_)
        ·try simp only [dz, ne_eq] at hc3
         have hli : vA v i3 ≤ vA v a := by unfold vA at *; omega
         refine WC_skip ?_
         refine Ps_next hK28 ?_
         refine WC_block ?_
         refine WC_region ?_
         refine WL_r (Rd_move rfl) rfl ?_
         refine WL_r (Rd_addN (j := 1) rfl rfl) rfl ?_
         refine WL_r (Rd_assign rfl) rfl ?_
         refine WL_nil ?_
         refine Ps_wkA (hK27 (i3 + 1) (⟨by omega, LoI_snoc hlo3 hli⟩) (by omega))
        ·try simp only [dz, ne_eq] at hc3
         have hI3 : i3 ≤ j2 → vA v a ≤ vA v i3 := by unfold vA at *; omega
         refine WC_exit ?_
         refine Ps_wkA (hK26 (i3) (⟨hi3, hlo3, hI3⟩))
       ·try simp only [dz, ne_eq] at hg30
        refine WJ_skip 4 rfl (by kernel_rfl) rfl rfl rfl (hp _ _) ?_
        refine WJ_skip 5 rfl (by kernel_rfl) rfl rfl rfl (hp _ _) ?_
        refine WJ_skip 6 rfl (by kernel_rfl) rfl rfl rfl (hp _ _) ?_
        refine WJ_skip 7 rfl (by kernel_rfl) rfl rfl rfl (hp _ _) ?_
        refine WJ_skip 8 rfl (by kernel_rfl) rfl rfl rfl (hp _ _) ?_
        refine WJ_skip 9 rfl (by kernel_rfl) rfl rfl rfl (hp _ _) ?_
        refine WJ_skip 10 rfl (by kernel_rfl) rfl rfl rfl (hp _ _) ?_
        refine WJ_skip 11 rfl (by kernel_rfl) rfl rfl rfl (hp _ _) ?_
        refine WJ_all (rs := [12]) (by kernel_rfl) rfl ?_
        refine WI_one ?_
        refine WI_skip rfl rfl rfl rfl (fun _ => subA) ?_
        refine WJ_tp 13 rfl (Rd_pickF rfl rfl) rfl (hp _ _) ?_
        refine WJ_done (by kernel_rfl) ?_
        refine Ps_next hK29 ?_
        refine WC_condF rfl ?_
        have hI3 : i3 ≤ j2 → vA v a ≤ vA v i3 := by unfold vA at *; omega
        refine WC_exit ?_
        refine Ps_wkA (hK26 (i3) (⟨hi3, hlo3, hI3⟩))
     ·rintro i3 ⟨hi3, hlo3, hI3⟩
      simp only [List.cons_append, List.nil_append]
      refine Ps_next hK25 ?_
      refine WC_seq fun K31 hK31 => ?_
      refine WC_meet (B0 := []) (σ := Nat) (fun j3 => [(11, .int .i64 ((j3 : Nat) : Int))]) (fun j3 => []) (fun j3 => (i3 ≤ j3 + 1 ∧ j3 ≤ j2) ∧ HiJ v a j3 b ∧ (i3 ≤ j3 → vA v j3 < vA v a)) [0, 1, 8, 9, 10, 99, 100, 101, 102, 103, 104, 105, 106, 107, 108, 109, 110, 111, 112, 113, 114, 132, 133, 134, 135, 136, 137, 138, 139, 140, 141, 142, 143, 144, 145, 146, 147, 148, 149, 150, 151, 152, 153, 154, 155, 156, 157, 158, 159, 160, 161, 162, 163, 164, 165, 166, 167] kpA (by (try dsimp only); repeat (first | with_reducible exact Gv.nil | (with_reducible apply Gv.cons; · (repeat (first | with_reducible exact Ext.here | with_reducible apply Ext.there))))) ?_ ?_
      ·intro hK32
       refine WC_block ?_
       refine WC_loopK (σ := Nat) (fun j3 => [(11, .int .i64 ((j3 : Nat) : Int))]) (fun j3 => []) (fun j3 => (i3 ≤ j3 + 1 ∧ j3 ≤ j2) ∧ HiJ v a j3 b) (fun j3 => j3) (j2) [0, 1, 8, 9, 10, 99, 100, 101, 102, 103, 104, 105, 106, 107, 108, 109, 110, 111, 112, 113, 114, 132, 133, 134, 135, 136, 137, 138, 139, 140, 141, 142, 143, 144, 145, 146, 147, 148, 149, 150, 151, 152, 153, 154, 155, 156, 157, 158, 159, 160, 161, 162, 163, 164, 165, 166, 167] kpA (by (try dsimp only); repeat (first | with_reducible exact Gv.nil | (with_reducible apply Gv.cons; · (repeat (first | with_reducible exact Ext.here | with_reducible apply Ext.there))))) ?_ ?_ Sub.refl ?_
       ·exact ⟨by omega, hhi2⟩
       ·(try dsimp only); exact (Wk.cons lkA Wk.nil)
       ·rintro j3 ⟨hj3, hhi3⟩ K33 hK33
        simp only [List.cons_append, List.nil_append]
        refine WC_seq fun K34 hK34 => ?_
        refine WC_seq fun K35 hK35 => ?_
        refine WC_draw mix [arr (some ga) cap 1 25 (eU .u32 (w := 32)) v] (fun i => ([2, 2, 2, 2, 2, 2, 2, 2, 2, 2, 2, 2, 1, 2, 2] : List Nat).getD i 0) ?_
        refine WJ_tp 0 rfl (Rd_move rfl) rfl (hp _ _) ?_
        refine WJ_tp 1 rfl (Rd_move rfl) rfl (hp _ _) ?_
        refine WJ_tp 2 rfl (Rd_leqN rfl rfl) rfl (hp _ _) ?_
        refine WJ_tp 3 rfl (Rd_move rfl) rfl (hp _ _) ?_
        refine WJ_bool 118 rfl (fun hg36 => ?_) (fun hg36 => ?_)
        ·try simp only [dz, ne_eq] at hg36
         refine WJ_tp 4 rfl (Rd_move rfl) rfl (hp _ _) ?_
         refine WJ_tp 5 rfl (Rd_move rfl) rfl (hp _ _) ?_
         refine WJ_tp 6 rfl (Rd_index (j3) rfl rfl ud99 sz25 (hj := by omega)) rfl (hp _ _) ?_
         refine WJ_tk 7 (Rd_load_arr (i := j3) (j := 0) rfl tk25 (hl := getA (l := v) (by omega))) hp ?_ rfl (by kernel_rfl) rfl rfl rfl
         refine WJ_tp 8 rfl (Rd_move rfl) rfl (hp _ _) ?_
         refine WJ_tp 9 rfl (Rd_move rfl) rfl (hp _ _) ?_
         refine WJ_tp 10 rfl (Rd_index (a) rfl rfl ud99 sz25 (hj := by omega)) rfl (hp _ _) ?_
         refine WJ_tk 11 (Rd_load_arr (i := a) (j := 0) rfl tk25 (hl := getA (l := v) (by omega))) hp ?_ rfl (by kernel_rfl) rfl rfl rfl
         refine WJ_all (rs := [12]) (by kernel_rfl) rfl ?_
         refine WI_one ?_
         refine WI_ac rfl (Ac_call cf84 rfl (hs := lessW_ct (x := v.getD (j3) 0#32) (y := v.getD (a) 0#32))) rfl rfl rfl rfl ?_
         rintro _ _ ⟨⟨⟩, rfl, hA⟩
         simp only [List.cons_append, List.nil_append] at hA
         replace hA := hA.symm
         subst hA
         refine ⟨(fun _ => subA), ?_⟩
         refine WJ_tp 13 rfl (Rd_not rfl) rfl (hp _ _) ?_
         refine WJ_tp 14 rfl (Rd_pickT rfl rfl) rfl (hp _ _) ?_
         refine WJ_done (by kernel_rfl) ?_
         refine Ps_next hK35 ?_
         refine WC_cond rfl (fun hc4 => ?_) (fun hc4 => ?_)
         ·try simp only [dz, ne_eq] at hc4
          have hlj : vA v a ≤ vA v j3 := by unfold vA at *; omega
          refine WC_skip ?_
          refine Ps_next hK34 ?_
          refine WC_block ?_
          refine WC_region ?_
          refine WL_r (Rd_move rfl) rfl ?_
          refine WL_r (Rd_subN (j := 1) rfl rfl) rfl ?_
          refine WL_r (Rd_assign rfl) rfl ?_
          refine WL_nil ?_
          refine Ps_wkA (hK33 (j3 - 1) (⟨by omega, HiJ_snoc hhi3 hlj⟩) (by omega))
         ·try simp only [dz, ne_eq] at hc4
          have hJ3 : i3 ≤ j3 → vA v j3 < vA v a := by unfold vA at *; omega
          refine WC_exit ?_
          refine Ps_wkA (hK32 (j3) (⟨hj3, hhi3, hJ3⟩))
        ·try simp only [dz, ne_eq] at hg36
         refine WJ_skip 4 rfl (by kernel_rfl) rfl rfl rfl (hp _ _) ?_
         refine WJ_skip 5 rfl (by kernel_rfl) rfl rfl rfl (hp _ _) ?_
         refine WJ_skip 6 rfl (by kernel_rfl) rfl rfl rfl (hp _ _) ?_
         refine WJ_skip 7 rfl (by kernel_rfl) rfl rfl rfl (hp _ _) ?_
         refine WJ_skip 8 rfl (by kernel_rfl) rfl rfl rfl (hp _ _) ?_
         refine WJ_skip 9 rfl (by kernel_rfl) rfl rfl rfl (hp _ _) ?_
         refine WJ_skip 10 rfl (by kernel_rfl) rfl rfl rfl (hp _ _) ?_
         refine WJ_skip 11 rfl (by kernel_rfl) rfl rfl rfl (hp _ _) ?_
         refine WJ_all (rs := [12]) (by kernel_rfl) rfl ?_
         refine WI_one ?_
         refine WI_skip rfl rfl rfl rfl (fun _ => subA) ?_
         refine WJ_skip 13 rfl (by kernel_rfl) rfl rfl rfl (hp _ _) ?_
         refine WJ_tp 14 rfl (Rd_pickF rfl rfl) rfl (hp _ _) ?_
         refine WJ_done (by kernel_rfl) ?_
         refine Ps_next hK35 ?_
         refine WC_condF rfl ?_
         have hJ3 : i3 ≤ j3 → vA v j3 < vA v a := by unfold vA at *; omega
         refine WC_exit ?_
         refine Ps_wkA (hK32 (j3) (⟨hj3, hhi3, hJ3⟩))
      ·rintro j3 ⟨hj3, hhi3, hJ3⟩
       simp only [List.cons_append, List.nil_append]
       refine Ps_next hK31 ?_
       refine WC_seq fun K37 hK37 => ?_
       refine WC_sr fun K38 hK38 => ?_
       refine WL_r (Rd_move rfl) rfl ?_
       refine WL_r (Rd_move rfl) rfl ?_
       refine WL_r (Rd_gtrN rfl rfl) rfl ?_
       refine WL_end hK38 ?_
       refine WC_cond rfl (fun hc5 => ?_) (fun hc5 => ?_)
       ·try simp only [dz, ne_eq] at hc5
        refine WC_exit ?_
        refine Ps_next hK23 ?_
        refine WC_seq fun K39 hK39 => ?_
        refine WC_drawA mix (fun i => ([2, 2, 2, 2, 2, 2, 2, 2, 2, 2, 2, 2, 2, 0, 2, 0] : List Nat).getD i 0) ?_
        refine WJ_tp 0 rfl (Rd_move rfl) rfl (hp _ _) ?_
        refine WJ_tp 1 rfl (Rd_move rfl) rfl (hp _ _) ?_
        refine WJ_tp 2 rfl (Rd_move rfl) rfl (hp _ _) ?_
        refine WJ_tp 3 rfl (Rd_move rfl) rfl (hp _ _) ?_
        refine WJ_tp 4 rfl (Rd_move rfl) rfl (hp _ _) ?_
        refine WJ_tp 5 rfl (Rd_move rfl) rfl (hp _ _) ?_
        refine WJ_tp 6 rfl (Rd_index (a) rfl rfl ud99 sz25 (hj := by omega)) rfl (hp _ _) ?_
        refine WJ_tk 7 (Rd_load_arr (i := a) (j := 0) rfl tk25 (hl := getA (l := v) (by omega))) hp ?_ rfl (by kernel_rfl) rfl rfl rfl
        refine WJ_tp 8 rfl (Rd_move rfl) rfl (hp _ _) ?_
        refine WJ_tp 9 rfl (Rd_move rfl) rfl (hp _ _) ?_
        refine WJ_tp 10 rfl (Rd_index (j3) rfl rfl ud99 sz25 (hj := by omega)) rfl (hp _ _) ?_
        refine WJ_tk 11 (Rd_load_arr (i := j3) (j := 0) rfl tk25 (hl := getA (l := v) (by omega))) hp ?_ rfl (by kernel_rfl) rfl rfl rfl
        refine WJ_tp 12 rfl (Rd_index (j3) rfl rfl ud99 sz25 (hj := by omega)) rfl (hp _ _) ?_
        refine WJ_all (rs := [13]) (by kernel_rfl) rfl ?_
        refine WI_one ?_
        refine WI_ac0 rfl (Ac_store_arr (v.getD (a) 0#32) rfl rfl sz25 (i := j3) (j := 0) (hl := getA (l := v) (by omega))) rfl rfl rfl ?_
        rintro _ _ rfl
        refine ⟨(fun h => by cases h), ?_⟩
        refine WJ_tp 14 rfl (Rd_index (a) rfl rfl ud99 sz25 (hj := by omega)) rfl (hp _ _) ?_
        refine WJ_all (rs := [15]) (by kernel_rfl) rfl ?_
        refine WI_one ?_
        refine WI_ac0 rfl (Ac_store_arr (v.getD (j3) 0#32) rfl rfl sz25 (i := a) (j := 0) (hl := getA (by rw [List.length_set]; omega))) rfl rfl rfl ?_
        rintro _ _ rfl
        refine ⟨(fun h => by cases h), ?_⟩
        refine WJ_done (by kernel_rfl) ?_
        refine Ps_next hK39 ?_
        refine WC_sr fun K40 hK40 => ?_
        rw [show (v.set (j3) (v.getD (a) 0#32)).set (a) (v.getD (j3) 0#32) = swA v (j3) (a) from rfl]
        refine WL_r (Rd_move rfl) rfl ?_
        refine WL_r (Rd_assign rfl) rfl ?_
        refine WL_r (Rd_assign rfl) rfl ?_
        refine WL_end hK40 ?_
        refine WC_ret ?_
        exact hret.go ⟨(j3, false, swA v j3 a), .step hsv (by omega) (by omega) (by omega) (by omega), Cut_fin hlo3 hhi3 (by omega) (by omega) (by omega) (by omega)⟩ (Rs2 rfl rfl rfl)
       ·try simp only [dz, ne_eq] at hc5
        have hij : i3 < j3 := lt_of_vals (by omega) (hJ3 (by omega)) (hI3 (by omega))
        refine WC_skip ?_
        refine Ps_next hK37 ?_
        refine WC_seq fun K41 hK41 => ?_
        refine WC_drawA mix (fun i => ([2, 2, 2, 2, 2, 2, 2, 2, 2, 2, 2, 2, 2, 0, 2, 0] : List Nat).getD i 0) ?_
        refine WJ_tp 0 rfl (Rd_move rfl) rfl (hp _ _) ?_
        refine WJ_tp 1 rfl (Rd_move rfl) rfl (hp _ _) ?_
        refine WJ_tp 2 rfl (Rd_move rfl) rfl (hp _ _) ?_
        refine WJ_tp 3 rfl (Rd_move rfl) rfl (hp _ _) ?_
        refine WJ_tp 4 rfl (Rd_move rfl) rfl (hp _ _) ?_
        refine WJ_tp 5 rfl (Rd_move rfl) rfl (hp _ _) ?_
        refine WJ_tp 6 rfl (Rd_index (j3) rfl rfl ud99 sz25 (hj := by omega)) rfl (hp _ _) ?_
        refine WJ_tk 7 (Rd_load_arr (i := j3) (j := 0) rfl tk25 (hl := getA (l := v) (by omega))) hp ?_ rfl (by kernel_rfl) rfl rfl rfl
        refine WJ_tp 8 rfl (Rd_move rfl) rfl (hp _ _) ?_
        refine WJ_tp 9 rfl (Rd_move rfl) rfl (hp _ _) ?_
        refine WJ_tp 10 rfl (Rd_index (i3) rfl rfl ud99 sz25 (hj := by omega)) rfl (hp _ _) ?_
        refine WJ_tk 11 (Rd_load_arr (i := i3) (j := 0) rfl tk25 (hl := getA (l := v) (by omega))) hp ?_ rfl (by kernel_rfl) rfl rfl rfl
        refine WJ_tp 12 rfl (Rd_index (i3) rfl rfl ud99 sz25 (hj := by omega)) rfl (hp _ _) ?_
        refine WJ_all (rs := [13]) (by kernel_rfl) rfl ?_
        refine WI_one ?_
        refine WI_ac0 rfl (Ac_store_arr (v.getD (j3) 0#32) rfl rfl sz25 (i := i3) (j := 0) (hl := getA (l := v) (by omega))) rfl rfl rfl ?_
        rintro _ _ rfl
        refine ⟨(fun h => by cases h), ?_⟩
        refine WJ_tp 14 rfl (Rd_index (j3) rfl rfl ud99 sz25 (hj := by omega)) rfl (hp _ _) ?_
        refine WJ_all (rs := [15]) (by kernel_rfl) rfl ?_
        refine WI_one ?_
        refine WI_ac0 rfl (Ac_store_arr (v.getD (i3) 0#32) rfl rfl sz25 (i := j3) (j := 0) (hl := getA (by rw [List.length_set]; omega))) rfl rfl rfl ?_
        rintro _ _ rfl
        refine ⟨(fun h => by cases h), ?_⟩
        refine WJ_done (by kernel_rfl) ?_
        refine Ps_next hK41 ?_
        refine WC_sr fun K42 hK42 => ?_
        rw [show (v.set (i3) (v.getD (j3) 0#32)).set (j3) (v.getD (i3) 0#32) = swA v (i3) (j3) from rfl]
        refine WL_r (Rd_move rfl) rfl ?_
        refine WL_r (Rd_addN (j := 1) rfl rfl) rfl ?_
        refine WL_r (Rd_assign rfl) rfl ?_
        refine WL_end hK42 ?_
        refine WC_region ?_
        refine WL_r (Rd_move rfl) rfl ?_
        refine WL_r (Rd_subN (j := 1) rfl rfl) rfl ?_
        refine WL_r (Rd_assign rfl) rfl ?_
        refine WL_nil ?_
        refine Ps_wkA (hK24 ⟨i3 + 1, j3 - 1, swA v i3 j3⟩ (⟨by (try dsimp only); omega, LoI_swap (by omega) hij (by omega) hlo3 (Nat.le_of_lt (hJ3 (by omega))), HiJ_swap (by omega) hij (by omega) hhi3 (hI3 (by omega)), .step hsv (by omega) (by omega) (by omega) (by omega), by (try dsimp only); rw [swA_len]; exact hvl⟩) (by (try dsimp only); omega))

theorem partE_ct {ga cap n a b : Nat} {l : List B32} {p : Nat} (hl : l.length = n) (hn : n ≤ 1000) (hap : a ≤ p) (hpb : p < b) (hb : b ≤ n) : Ct Try.prog 85 [sl (some ga) n cap, .int .i64 ((a : Nat) : Int), .int .i64 ((b : Nat) : Int), .int .i64 ((p : Nat) : Int)] [arr (some ga) cap 1 25 (eU .u32 (w := 32)) l] (fun g : {q : Nat × List B32 // SwR a b l q.2 ∧ (a < q.1 ∧ q.1 ≤ b) ∧ ∀ k, a ≤ k → k < q.1 → vA q.2 k ≤ vA l p} => .int .i64 ((g.1.1 : Nat) : Int)) (fun g => [arr (some ga) cap 1 25 (eU .u32 (w := 32)) g.1.2]) := by
 refine Ct_body (n := 84) Try.func85 rfl rfl rfl fun F w0 Q hret hnorm hp => ?_
 change WC _ _ _ _ _ _ _ (_ :: F)
 refine WC_sr fun K1 hK1 => ?_
 refine WL_r (Rd_assign rfl) rfl ?_
 refine WL_end hK1 ?_
 refine WC_seq fun K2 hK2 => ?_
 refine WC_drawA mix (fun i => ([2, 2, 2, 2, 2, 2, 2, 2, 2, 2, 2, 2, 2, 0, 2, 0] : List Nat).getD i 0) ?_
 refine WJ_tp 0 rfl (Rd_move rfl) rfl (hp _ _) ?_
 refine WJ_tp 1 rfl (Rd_move rfl) rfl (hp _ _) ?_
 refine WJ_tp 2 rfl (Rd_move rfl) rfl (hp _ _) ?_
 refine WJ_tp 3 rfl (Rd_move rfl) rfl (hp _ _) ?_
 refine WJ_tp 4 rfl (Rd_move rfl) rfl (hp _ _) ?_
 refine WJ_tp 5 rfl (Rd_move rfl) rfl (hp _ _) ?_
 refine WJ_tp 6 rfl (Rd_index (p) rfl rfl ud99 sz25 (hj := by omega)) rfl (hp _ _) ?_
 refine WJ_tk 7 (Rd_load_arr (i := p) (j := 0) rfl tk25 (hl := getA (l := l) (by omega))) hp ?_ rfl (by kernel_rfl) rfl rfl rfl
 refine WJ_tp 8 rfl (Rd_move rfl) rfl (hp _ _) ?_
 refine WJ_tp 9 rfl (Rd_move rfl) rfl (hp _ _) ?_
 refine WJ_tp 10 rfl (Rd_index (a) rfl rfl ud99 sz25 (hj := by omega)) rfl (hp _ _) ?_
 refine WJ_tk 11 (Rd_load_arr (i := a) (j := 0) rfl tk25 (hl := getA (l := l) (by omega))) hp ?_ rfl (by kernel_rfl) rfl rfl rfl
 refine WJ_tp 12 rfl (Rd_index (a) rfl rfl ud99 sz25 (hj := by omega)) rfl (hp _ _) ?_
 refine WJ_all (rs := [13]) (by kernel_rfl) rfl ?_
 refine WI_one ?_
 refine WI_ac0 rfl (Ac_store_arr (l.getD (p) 0#32) rfl rfl sz25 (i := a) (j := 0) (hl := getA (l := l) (by omega))) rfl rfl rfl ?_
 rintro _ _ rfl
 refine ⟨(fun h => by cases h), ?_⟩
 refine WJ_tp 14 rfl (Rd_index (p) rfl rfl ud99 sz25 (hj := by omega)) rfl (hp _ _) ?_
 refine WJ_all (rs := [15]) (by kernel_rfl) rfl ?_
 refine WI_one ?_
 refine WI_ac0 rfl (Ac_store_arr (l.getD (a) 0#32) rfl rfl sz25 (i := p) (j := 0) (hl := getA (by rw [List.length_set]; omega))) rfl rfl rfl ?_
 rintro _ _ rfl
 refine ⟨(fun h => by cases h), ?_⟩
 refine WJ_done (by kernel_rfl) ?_
 refine Ps_next hK2 ?_
 refine WC_sr fun K3 hK3 => ?_
 rw [show (l.set (a) (l.getD (p) 0#32)).set (p) (l.getD (a) 0#32) = swA l (a) (p) from rfl]
 refine WL_r (Rd_move rfl) rfl ?_
 refine WL_r (Rd_addN (j := 1) rfl rfl) rfl ?_
 refine WL_r (Rd_move rfl) rfl ?_
 refine WL_r (Rd_subN (j := 1) rfl rfl) rfl ?_
 refine WL_r (Rd_assign rfl) rfl ?_
 refine WL_r (Rd_assign rfl) rfl ?_
 refine WL_end hK3 ?_
 refine WC_seq fun K4 hK4 => ?_
 refine WC_block ?_
 refine WC_loopK (σ := Nat × Nat × (List B32)) (fun ⟨i2, j2, v⟩ => [(9, .int .i64 ((i2 : Nat) : Int)), (10, .int .i64 ((j2 : Nat) : Int))]) (fun ⟨i2, j2, v⟩ => [arr (some ga) cap 1 25 (eU .u32 (w := 32)) v]) (fun ⟨i2, j2, v⟩ => (a + 1 ≤ i2 ∧ i2 ≤ j2 + 1 ∧ j2 < b) ∧ LoI v a i2 ∧ vA v a = vA l p ∧ SwR a b l v ∧ v.length = n) (fun ⟨i2, j2, v⟩ => j2) ⟨a + 1, b - 1, swA l a p⟩ [0, 1, 8, 83] kpA (by (try dsimp only); repeat (first | with_reducible exact Gv.nil | (with_reducible apply Gv.cons; · (repeat (first | with_reducible exact Ext.here | with_reducible apply Ext.there))))) ?_ ?_ Sub.refl ?_
 ·exact ⟨by omega, fun k h1 h2 => by omega, swA_fst (by omega) (by omega), .step .refl (by omega) (by omega) hap hpb, by rw [swA_len]; exact hl⟩
 ·(try dsimp only); exact (Wk.cons lkA (Wk.cons lkA Wk.nil))
 ·rintro ⟨i2, j2, v⟩ ⟨hi2, hlo2, hva, hsv, hvl⟩ K5 hK5
  simp only [List.cons_append, List.nil_append]
  refine WC_block ?_
  refine WC_seq fun K6 hK6 => ?_
  refine WC_meet (B0 := []) (σ := Nat) (fun i3 => [(9, .int .i64 ((i3 : Nat) : Int))]) (fun i3 => []) (fun i3 => (a + 1 ≤ i3 ∧ i3 ≤ j2 + 1) ∧ LoI v a i3 ∧ (i3 ≤ j2 → vA v a < vA v i3)) [0, 1, 8, 10, 46, 47, 48, 49, 50, 51, 52, 53, 54, 55, 56, 57, 58, 59, 60, 61, 62, 63, 64, 65, 66, 67, 68, 69, 70, 71, 72, 73, 74, 75, 76, 77, 78, 79, 80, 81, 82, 83] kpA (by (try dsimp only); repeat (first | with_reducible exact Gv.nil | (with_reducible apply Gv.cons; · (repeat (first | with_reducible exact Ext.here | with_reducible apply Ext.there))))) ?_ ?_
  ·intro hK7
   refine WC_block ?_
   refine WC_loopK (σ := Nat) (fun i3 => [(9, .int .i64 ((i3 : Nat) : Int))]) (fun i3 => []) (fun i3 => (a + 1 ≤ i3 ∧ i3 ≤ j2 + 1) ∧ LoI v a i3) (fun i3 => j2 + 1 - i3) (i2) [0, 1, 8, 10, 46, 47, 48, 49, 50, 51, 52, 53, 54, 55, 56, 57, 58, 59, 60, 61, 62, 63, 64, 65, 66, 67, 68, 69, 70, 71, 72, 73, 74, 75, 76, 77, 78, 79, 80, 81, 82, 83] kpA (by (try dsimp only); repeat (first | with_reducible exact Gv.nil | (with_reducible apply Gv.cons; · (repeat (first | with_reducible exact Ext.here | with_reducible apply Ext.there))))) ?_ ?_ Sub.refl ?_
   ·exact ⟨by omega, hlo2⟩
   ·(try dsimp only); exact (Wk.cons lkA Wk.nil)
   ·rintro i3 ⟨hi3, hlo3⟩ K8 hK8
    simp only [List.cons_append, List.nil_append]
    refine WC_seq fun K9 hK9 => ?_
    refine WC_seq fun K10 hK10 => ?_
    refine WC_draw mix [arr (some ga) cap 1 25 (eU .u32 (w := 32)) v] (fun i => ([2, 2, 2, 2, 2, 2, 2, 2, 2, 2, 2, 2, 1, 2, 2] : List Nat).getD i 0) ?_
    refine WJ_tp 0 rfl (Rd_move rfl) rfl (hp _ _) ?_
    refine WJ_tp 1 rfl (Rd_move rfl) rfl (hp _ _) ?_
    refine WJ_tp 2 rfl (Rd_leqN rfl rfl) rfl (hp _ _) ?_
    refine WJ_tp 3 rfl (Rd_move rfl) rfl (hp _ _) ?_
    refine WJ_bool 32 rfl (fun hg11 => ?_) (fun hg11 => ?_)
    ·try simp only [dz, ne_eq] at hg11
     refine WJ_tp 4 rfl (Rd_move rfl) rfl (hp _ _) ?_
     refine WJ_tp 5 rfl (Rd_move rfl) rfl (hp _ _) ?_
     refine WJ_tp 6 rfl (Rd_index (a) rfl rfl ud99 sz25 (hj := by omega)) rfl (hp _ _) ?_
     refine WJ_tk 7 (Rd_load_arr (i := a) (j := 0) rfl tk25 (hl := getA (l := v) (by omega))) hp ?_ rfl (by kernel_rfl) rfl rfl rfl
     refine WJ_tp 8 rfl (Rd_move rfl) rfl (hp _ _) ?_
     refine WJ_tp 9 rfl (Rd_move rfl) rfl (hp _ _) ?_
     refine WJ_tp 10 rfl (Rd_index (i3) rfl rfl ud99 sz25 (hj := by omega)) rfl (hp _ _) ?_
     refine WJ_tk 11 (Rd_load_arr (i := i3) (j := 0) rfl tk25 (hl := getA (l := v) (by omega))) hp ?_ rfl (by kernel_rfl) rfl rfl rfl
     refine WJ_all (rs := [12]) (by kernel_rfl) rfl ?_
     refine WI_one ?_
     refine WI_ac rfl (Ac_call cf84 rfl (hs := lessW_ct (x := v.getD (a) 0#32) (y := v.getD (i3) 0#32))) rfl rfl rfl rfl ?_
     rintro _ _ ⟨⟨⟩, rfl, hA⟩
     simp only [List.cons_append, List.nil_append] at hA
     replace hA := hA.symm
     subst hA
     refine ⟨(fun _ => subA), ?_⟩
     refine WJ_tp 13 rfl (Rd_not rfl) rfl (hp _ _) ?_
     refine WJ_tp 14 rfl (Rd_pickT rfl rfl) rfl (hp _ _) ?_
     refine WJ_done (by kernel_rfl) ?_
     refine Ps_next hK10 ?_
     refine WC_cond rfl (fun hc0 => ?_) (fun hc0 => ?_)
     ·try simp only [dz, ne_eq] at hc0
      have hli : vA v i3 ≤ vA v a := by unfold vA at *; omega
      refine WC_skip ?_
      refine Ps_next hK9 ?_
      refine WC_block ?_
      refine WC_region ?_
      refine WL_r (Rd_move rfl) rfl ?_
      refine WL_r (Rd_addN (j := 1) rfl rfl) rfl ?_
      refine WL_r (Rd_assign rfl) rfl ?_
      refine WL_nil ?_
      refine Ps_wkA (hK8 (i3 + 1) (⟨by omega, LoI_snoc hlo3 hli⟩) (by omega))
     ·try simp only [dz, ne_eq] at hc0
      have hI3 : i3 ≤ j2 → vA v a < vA v i3 := by unfold vA at *; omega
      refine WC_exit ?_
      refine Ps_wkA (hK7 (i3) (⟨hi3, hlo3, hI3⟩))
    ·try simp only [dz, ne_eq] at hg11
     refine WJ_skip 4 rfl (by kernel_rfl) rfl rfl rfl (hp _ _) ?_
     refine WJ_skip 5 rfl (by kernel_rfl) rfl rfl rfl (hp _ _) ?_
     refine WJ_skip 6 rfl (by kernel_rfl) rfl rfl rfl (hp _ _) ?_
     refine WJ_skip 7 rfl (by kernel_rfl) rfl rfl rfl (hp _ _) ?_
     refine WJ_skip 8 rfl (by kernel_rfl) rfl rfl rfl (hp _ _) ?_
     refine WJ_skip 9 rfl (by kernel_rfl) rfl rfl rfl (hp _ _) ?_
     refine WJ_skip 10 rfl (by kernel_rfl) rfl rfl rfl (hp _ _) ?_
     refine WJ_skip 11 rfl (by kernel_rfl) rfl rfl rfl (hp _ _) ?_
     refine WJ_all (rs := [12]) (by kernel_rfl) rfl ?_
     refine WI_one ?_
     refine WI_skip rfl rfl rfl rfl (fun _ => subA) ?_
     refine WJ_skip 13 rfl (by kernel_rfl) rfl rfl rfl (hp _ _) ?_
     refine WJ_tp 14 rfl (Rd_pickF rfl rfl) rfl (hp _ _) ?_
     refine WJ_done (by kernel_rfl) ?_
     refine Ps_next hK10 ?_
     refine WC_condF rfl ?_
     have hI3 : i3 ≤ j2 → vA v a < vA v i3 := by unfold vA at *; omega
     refine WC_exit ?_
     refine Ps_wkA (hK7 (i3) (⟨hi3, hlo3, hI3⟩))
  ·rintro i3 ⟨hi3, hlo3, hI3⟩
   simp only [List.cons_append, List.nil_append]
   refine Ps_next hK6 ?_
   refine WC_seq fun K12 hK12 => ?_
   refine WC_meet (B0 := []) (σ := Nat) (fun j3 => [(10, .int .i64 ((j3 : Nat) : Int))]) (fun j3 => []) (fun j3 => (i3 ≤ j3 + 1 ∧ j3 ≤ j2) ∧ (i3 ≤ j3 → vA v j3 ≤ vA v a)) [0, 1, 8, 9, 29, 30, 31, 32, 33, 34, 35, 36, 37, 38, 39, 40, 41, 42, 43, 44, 45, 62, 63, 64, 65, 66, 67, 68, 69, 70, 71, 72, 73, 74, 75, 76, 77, 78, 79, 80, 81, 82, 83] kpA (by (try dsimp only); repeat (first | with_reducible exact Gv.nil | (with_reducible apply Gv.cons; · (repeat (first | with_reducible exact Ext.here | with_reducible apply Ext.there))))) ?_ ?_
   ·intro hK13
    refine WC_block ?_
    refine WC_loopK (σ := Nat) (fun j3 => [(10, .int .i64 ((j3 : Nat) : Int))]) (fun j3 => []) (fun j3 => i3 ≤ j3 + 1 ∧ j3 ≤ j2) (fun j3 => j3) (j2) [0, 1, 8, 9, 29, 30, 31, 32, 33, 34, 35, 36, 37, 38, 39, 40, 41, 42, 43, 44, 45, 62, 63, 64, 65, 66, 67, 68, 69, 70, 71, 72, 73, 74, 75, 76, 77, 78, 79, 80, 81, 82, 83] kpA (by (try dsimp only); repeat (first | with_reducible exact Gv.nil | (with_reducible apply Gv.cons; · (repeat (first | with_reducible exact Ext.here | with_reducible apply Ext.there))))) ?_ ?_ Sub.refl ?_
    ·exact (by omega)
    ·(try dsimp only); exact (Wk.cons lkA Wk.nil)
    ·rintro j3 hj3 K14 hK14
     simp only [List.cons_append, List.nil_append]
     refine WC_seq fun K15 hK15 => ?_
     refine WC_seq fun K16 hK16 => ?_
     refine WC_draw mix [arr (some ga) cap 1 25 (eU .u32 (w := 32)) v] (fun i => ([2, 2, 2, 2, 2, 2, 2, 2, 2, 2, 2, 2, 1, 2] : List Nat).getD i 0) ?_
     refine WJ_tp 0 rfl (Rd_move rfl) rfl (hp _ _) ?_
     refine WJ_tp 1 rfl (Rd_move rfl) rfl (hp _ _) ?_
     refine WJ_tp 2 rfl (Rd_leqN rfl rfl) rfl (hp _ _) ?_
     refine WJ_tp 3 rfl (Rd_move rfl) rfl (hp _ _) ?_
     refine WJ_bool 49 rfl (fun hg17 => ?_) (fun hg17 => ?_)
     ·try simp only [dz, ne_eq] at hg17
      refine WJ_tp 4 rfl (Rd_move rfl) rfl (hp _ _) ?_
      refine WJ_tp 5 rfl (Rd_move rfl) rfl (hp _ _) ?_
      refine WJ_tp 6 rfl (Rd_index (a) rfl rfl ud99 sz25 (hj := by omega)) rfl (hp _ _) ?_
      refine WJ_tk 7 (Rd_load_arr (i := a) (j := 0) rfl tk25 (hl := getA (l := v) (by omega))) hp ?_ rfl (by kernel_rfl) rfl rfl rfl
      refine WJ_tp 8 rfl (Rd_move rfl) rfl (hp _ _) ?_
      refine WJ_tp 9 rfl (Rd_move rfl) rfl (hp _ _) ?_
      refine WJ_tp 10 rfl (Rd_index (j3) rfl rfl ud99 sz25 (hj := by omega)) rfl (hp _ _) ?_
      refine WJ_tk 11 (Rd_load_arr (i := j3) (j := 0) rfl tk25 (hl := getA (l := v) (by omega))) hp ?_ rfl (by kernel_rfl) rfl rfl rfl
      refine WJ_all (rs := [12]) (by kernel_rfl) rfl ?_
      refine WI_one ?_
      refine WI_ac rfl (Ac_call cf84 rfl (hs := lessW_ct (x := v.getD (a) 0#32) (y := v.getD (j3) 0#32))) rfl rfl rfl rfl ?_
      rintro _ _ ⟨⟨⟩, rfl, hA⟩
      simp only [List.cons_append, List.nil_append] at hA
      replace hA := hA.symm
      subst hA
      refine ⟨(fun _ => subA), ?_⟩
      refine WJ_tp 13 rfl (Rd_pickT rfl rfl) rfl (hp _ _) ?_
      refine WJ_done (by kernel_rfl) ?_
      refine Ps_next hK16 ?_
      refine WC_cond rfl (fun hc1 => ?_) (fun hc1 => ?_)
      ·try simp only [dz, ne_eq] at hc1
       refine WC_skip ?_
       refine Ps_next hK15 ?_
       refine WC_block ?_
       refine WC_region ?_
       refine WL_r (Rd_move rfl) rfl ?_
       refine WL_r (Rd_subN (j := 1) rfl rfl) rfl ?_
       refine WL_r (Rd_assign rfl) rfl ?_
       refine WL_nil ?_
       refine Ps_wkA (hK14 (j3 - 1) (by omega) (by omega))
      ·try simp only [dz, ne_eq] at hc1
       have hJ3 : i3 ≤ j3 → vA v j3 ≤ vA v a := by unfold vA at *; omega
       refine WC_exit ?_
       refine Ps_wkA (hK13 (j3) (⟨hj3, hJ3⟩))
     ·try simp only [dz, ne_eq] at hg17
      refine WJ_skip 4 rfl (by kernel_rfl) rfl rfl rfl (hp _ _) ?_
      refine WJ_skip 5 rfl (by kernel_rfl) rfl rfl rfl (hp _ _) ?_
      refine WJ_skip 6 rfl (by kernel_rfl) rfl rfl rfl (hp _ _) ?_
      refine WJ_skip 7 rfl (by kernel_rfl) rfl rfl rfl (hp _ _) ?_
      refine WJ_skip 8 rfl (by kernel_rfl) rfl rfl rfl (hp _ _) ?_
      refine WJ_skip 9 rfl (by kernel_rfl) rfl rfl rfl (hp _ _) ?_
      refine WJ_skip 10 rfl (by kernel_rfl) rfl rfl rfl (hp _ _) ?_
      refine WJ_skip 11 rfl (by kernel_rfl) rfl rfl rfl (hp _ _) ?_
      refine WJ_all (rs := [12]) (by kernel_rfl) rfl ?_
      refine WI_one ?_
      refine WI_skip rfl rfl rfl rfl (fun _ => subA) ?_
      refine WJ_tp 13 rfl (Rd_pickF rfl rfl) rfl (hp _ _) ?_
      refine WJ_done (by kernel_rfl) ?_
      refine Ps_next hK16 ?_
      refine WC_condF rfl ?_
      have hJ3 : i3 ≤ j3 → vA v j3 ≤ vA v a := by unfold vA at *; omega
      refine WC_exit ?_
      refine Ps_wkA (hK13 (j3) (⟨hj3, hJ3⟩))
   ·rintro j3 ⟨hj3, hJ3⟩
    simp only [List.cons_append, List.nil_append]
    refine Ps_next hK12 ?_
    refine WC_seq fun K18 hK18 => ?_
    refine WC_sr fun K19 hK19 => ?_
    refine WL_r (Rd_move rfl) rfl ?_
    refine WL_r (Rd_move rfl) rfl ?_
    refine WL_r (Rd_gtrN rfl rfl) rfl ?_
    refine WL_end hK19 ?_
    refine WC_cond rfl (fun hc2 => ?_) (fun hc2 => ?_)
    ·try simp only [dz, ne_eq] at hc2
     refine WC_exit ?_
     refine Ps_next hK4 ?_
     refine WC_sr fun K20 hK20 => ?_
     refine WL_r (Rd_move rfl) rfl ?_
     refine WL_r (Rd_assign rfl) rfl ?_
     refine WL_end hK20 ?_
     refine WC_ret ?_
     exact hret.go ⟨(i3, v), hsv, by (try dsimp only); omega, LoI_all hlo3 (Nat.le_of_eq hva)⟩ (Rs1 rfl rfl)
    ·try simp only [dz, ne_eq] at hc2
     have hij : i3 < j3 := lt_of_vals' (by omega) (hJ3 (by omega)) (hI3 (by omega))
     refine WC_skip ?_
     refine Ps_next hK18 ?_
     refine WC_seq fun K21 hK21 => ?_
     refine WC_drawA mix (fun i => ([2, 2, 2, 2, 2, 2, 2, 2, 2, 2, 2, 2, 2, 0, 2, 0] : List Nat).getD i 0) ?_
     refine WJ_tp 0 rfl (Rd_move rfl) rfl (hp _ _) ?_
     refine WJ_tp 1 rfl (Rd_move rfl) rfl (hp _ _) ?_
     refine WJ_tp 2 rfl (Rd_move rfl) rfl (hp _ _) ?_
     refine WJ_tp 3 rfl (Rd_move rfl) rfl (hp _ _) ?_
     refine WJ_tp 4 rfl (Rd_move rfl) rfl (hp _ _) ?_
     refine WJ_tp 5 rfl (Rd_move rfl) rfl (hp _ _) ?_
     refine WJ_tp 6 rfl (Rd_index (j3) rfl rfl ud99 sz25 (hj := by omega)) rfl (hp _ _) ?_
     refine WJ_tk 7 (Rd_load_arr (i := j3) (j := 0) rfl tk25 (hl := getA (l := v) (by omega))) hp ?_ rfl (by kernel_rfl) rfl rfl rfl
     refine WJ_tp 8 rfl (Rd_move rfl) rfl (hp _ _) ?_
     refine WJ_tp 9 rfl (Rd_move rfl) rfl (hp _ _) ?_
     refine WJ_tp 10 rfl (Rd_index (i3) rfl rfl ud99 sz25 (hj := by omega)) rfl (hp _ _) ?_
     refine WJ_tk 11 (Rd_load_arr (i := i3) (j := 0) rfl tk25 (hl := getA (l := v) (by omega))) hp ?_ rfl (by kernel_rfl) rfl rfl rfl
     refine WJ_tp 12 rfl (Rd_index (i3) rfl rfl ud99 sz25 (hj := by omega)) rfl (hp _ _) ?_
     refine WJ_all (rs := [13]) (by kernel_rfl) rfl ?_
     refine WI_one ?_
     refine WI_ac0 rfl (Ac_store_arr (v.getD (j3) 0#32) rfl rfl sz25 (i := i3) (j := 0) (hl := getA (l := v) (by omega))) rfl rfl rfl ?_
     rintro _ _ rfl
     refine ⟨(fun h => by cases h), ?_⟩
     refine WJ_tp 14 rfl (Rd_index (j3) rfl rfl ud99 sz25 (hj := by omega)) rfl (hp _ _) ?_
     refine WJ_all (rs := [15]) (by kernel_rfl) rfl ?_
     refine WI_one ?_
     refine WI_ac0 rfl (Ac_store_arr (v.getD (i3) 0#32) rfl rfl sz25 (i := j3) (j := 0) (hl := getA (by rw [List.length_set]; omega))) rfl rfl rfl ?_
     rintro _ _ rfl
     refine ⟨(fun h => by cases h), ?_⟩
     refine WJ_done (by kernel_rfl) ?_
     refine Ps_next hK21 ?_
     refine WC_sr fun K22 hK22 => ?_
     rw [show (v.set (i3) (v.getD (j3) 0#32)).set (j3) (v.getD (i3) 0#32) = swA v (i3) (j3) from rfl]
     refine WL_r (Rd_move rfl) rfl ?_
     refine WL_r (Rd_addN (j := 1) rfl rfl) rfl ?_
     refine WL_r (Rd_assign rfl) rfl ?_
     refine WL_end hK22 ?_
     refine WC_region ?_
     refine WL_r (Rd_move rfl) rfl ?_
     refine WL_r (Rd_subN (j := 1) rfl rfl) rfl ?_
     refine WL_r (Rd_assign rfl) rfl ?_
     refine WL_nil ?_
     refine Ps_wkA (hK5 ⟨i3 + 1, j3 - 1, swA v i3 j3⟩ (⟨by (try dsimp only); omega, LoI_swap (by omega) hij (by omega) hlo3 (hJ3 (by omega)), by (try dsimp only); rw [swA_v (by omega) (by omega), if_neg (by omega), if_neg (by omega)]; exact hva, .step hsv (by omega) (by omega) (by omega) (by omega), by (try dsimp only); rw [swA_len]; exact hvl⟩) (by (try dsimp only); omega))
end Go.Proofs.Ytoakfknnaiapiaa
namespace Go.Proofs.Ytoakfknnaiapiaa
open Go.RowKit Go.SL Go.ShM Go.SvM
set_option maxHeartbeats 1000000
set_option maxRecDepth 20000
set_option linter.all false
theorem cf97 : cfn Try.prog 97 = true := by kernel_rfl
theorem cf98 : cfn Try.prog 98 = true := by kernel_rfl
theorem ikd3_147 : ikd Try.prog 3 147 = some .u64 := by kernel_rfl
theorem ikd122_3 : ikd Try.prog 122 3 = some .i64 := by kernel_rfl
theorem sz147 : sz Try.prog 147 = some 1 := by kernel_rfl
theorem tk147 : tk Try.prog 147 = some none := by kernel_rfl
theorem zr147 : zr Try.prog 147 = some [.int .u64 0] := by kernel_rfl
theorem pow_ok {n : Nat} (h1 : 1 ≤ n) (h2 : n ≤ 1000) : n ≤ ((1#64 <<< Go.Lib.bitLen (n : Int).toNat) : BitVec 64).toNat ∧ ((1#64 <<< Go.Lib.bitLen (n : Int).toNat) : BitVec 64).toNat ≤ 2 * n := by
  have h : ∀ q : Fin 1001, 1 ≤ q.val → q.val ≤ ((1#64 <<< Go.Lib.bitLen q.val) : BitVec 64).toNat ∧ ((1#64 <<< Go.Lib.bitLen q.val) : BitVec 64).toNat ≤ 2 * q.val := by decide +kernel
  exact h ⟨n, by omega⟩ h1
theorem and_lt {y q : BitVec 64} {n : Nat} (h1 : 1 ≤ n) (hq : n ≤ q.toNat) (h2 : q.toNat ≤ 2 * n) (hn : n ≤ 1000) : (y &&& (q - 1#64)).toNat < 2 * n := by
  rw [BitVec.toNat_and]
  have := Nat.and_le_right (n := y.toNat) (m := (q - 1#64).toNat)
  have e : (q - 1#64).toNat = q.toNat - 1 := by rw [BitVec.toNat_sub_of_le (by rw [BitVec.le_def]; show 1 ≤ q.toNat; omega)]; rfl
  omega
theorem LB_lt {v : List B32} {a b j : Nat} (h : LB v a b) (h1 : a ≤ j) (h2 : j < b) (h3 : 1 ≤ j) (h4 : vA v j < vA v (j - 1)) : a < j := by
  rcases h with h | h
  · omega
  · rcases Nat.lt_or_ge a j with q | q
    · exact q
    · have e : j = a := by omega
      subst e
      have := h j (Nat.le_refl _) h2
      omega

theorem pins_ct {ga cap n a b : Nat} {l : List B32} (hl : l.length = n) (hn : n ≤ 1000) (hab : a < b) (hb : b ≤ n) (hlb : LB l a b) : Ct Try.prog 83 [sl (some ga) n cap, .int .i64 ((a : Nat) : Int), .int .i64 ((b : Nat) : Int)] [arr (some ga) cap 1 25 (eU .u32 (w := 32)) l] (fun g : {q : Bool × List B32 // SwR a b l q.2 ∧ (q.1 = true → ordS q.2 a b)} => .bool g.1.1) (fun g => [arr (some ga) cap 1 25 (eU .u32 (w := 32)) g.1.2]) := by
 refine Ct_body (n := 133) Try.func83 rfl rfl rfl fun F w0 Q hret hnorm hp => ?_
 change WC _ _ _ _ _ _ _ (_ :: F)
 refine WC_sr fun K1 hK1 => ?_
 refine WL_r (Rd_assign rfl) rfl ?_
 refine WL_end hK1 ?_
 refine WC_sr fun K2 hK2 => ?_
 refine WL_r (Rd_move rfl) rfl ?_
 refine WL_r (Rd_addN (j := 1) rfl rfl) rfl ?_
 refine WL_r (Rd_assign rfl) rfl ?_
 refine WL_end hK2 ?_
 refine WC_seq fun K3 hK3 => ?_
 refine WC_sr fun K4 hK4 => ?_
 refine WL_r (Rd_assign rfl) rfl ?_
 refine WL_end hK4 ?_
 refine WC_block ?_
 refine WC_loopK (σ := Nat × Nat × (List B32)) (fun ⟨i, q, w⟩ => [(7, .int .i64 ((i : Nat) : Int)), (8, .int .i64 ((q : Nat) : Int))]) (fun ⟨i, q, w⟩ => [arr (some ga) cap 1 25 (eU .u32 (w := 32)) w]) (fun ⟨i, q, w⟩ => ((a + 1 ≤ i ∧ i ≤ b) ∧ q ≤ 5) ∧ SwR a b l w ∧ ordS w a i ∧ w.length = n) (fun ⟨i, q, w⟩ => 5 - q) ⟨a + 1, 0, l⟩ [0, 1, 2] kpA (by (try dsimp only); repeat (first | with_reducible exact Gv.nil | (with_reducible apply Gv.cons; · (repeat (first | with_reducible exact Ext.here | with_reducible apply Ext.there))))) ?_ ?_ Sub.refl ?_
 ·exact ⟨by omega, .refl, fun p q h0 h1 h2 => by omega, hl⟩
 ·(try dsimp only); exact (Wk.cons lkA (Wk.cons lkA Wk.nil))
 ·rintro ⟨i, q, w⟩ ⟨hi, hsw, hod, hwl⟩ K5 hK5
  simp only [List.cons_append, List.nil_append]
  refine WC_seq fun K6 hK6 => ?_
  refine WC_sr fun K7 hK7 => ?_
  refine WL_r (Rd_move rfl) rfl ?_
  refine WL_r (Rd_lssN (j := 5) rfl rfl) rfl ?_
  refine WL_end hK7 ?_
  refine WC_cond rfl (fun hc0 => ?_) (fun hc0 => ?_)
  ·try simp only [dz, ne_eq] at hc0
   refine WC_skip ?_
   refine Ps_next hK6 ?_
   refine WC_seq fun K8 hK8 => ?_
   refine WC_block ?_
   refine WC_seq fun K9 hK9 => ?_
   refine WC_block ?_
   refine WC_loopK (σ := Nat) (fun i1 => [(7, .int .i64 ((i1 : Nat) : Int))]) (fun i1 => []) (fun i1 => (a + 1 ≤ i1 ∧ i1 ≤ b) ∧ ordS w a i1) (fun i1 => b - i1) (i) [0, 1, 2, 6, 8, 9, 10, 13, 14, 15, 16, 35, 36, 37, 38, 39, 40, 41, 42, 43, 44, 45, 46, 47, 48, 49, 50, 51, 52, 53, 54, 55, 56, 57, 58, 59, 60, 61, 62, 63, 64, 65, 66, 67, 68, 69, 70, 71, 72, 73, 74, 75, 76, 77, 78, 79, 80, 81, 82, 83, 84, 85, 86, 87, 88, 89, 90, 91, 92, 93, 94, 95, 96, 97, 98, 99, 100, 101, 102, 103, 104, 105, 106, 107, 108, 109, 110, 111, 112, 113, 114, 115, 116, 117, 118, 119, 120, 121, 122, 123, 124, 125, 126, 127, 128, 129, 130, 131, 132] kpA (by (try dsimp only); repeat (first | with_reducible exact Gv.nil | (with_reducible apply Gv.cons; · (repeat (first | with_reducible exact Ext.here | with_reducible apply Ext.there))))) ?_ ?_ Sub.refl ?_
   ·exact ⟨by omega, hod⟩
   ·(try dsimp only); exact (Wk.cons lkA Wk.nil)
   ·rintro i1 ⟨hi1, hod1⟩ K10 hK10
    simp only [List.cons_append, List.nil_append]
    refine WC_seq fun K11 hK11 => ?_
    refine WC_seq fun K12 hK12 => ?_
    refine WC_draw mix [arr (some ga) cap 1 25 (eU .u32 (w := 32)) w] (fun i => ([2, 2, 2, 2, 2, 2, 2, 2, 2, 2, 2, 2, 2, 1, 2, 2] : List Nat).getD i 0) ?_
    refine WJ_tp 0 rfl (Rd_move rfl) rfl (hp _ _) ?_
    refine WJ_tp 1 rfl (Rd_move rfl) rfl (hp _ _) ?_
    refine WJ_tp 2 rfl (Rd_lssN rfl rfl) rfl (hp _ _) ?_
    refine WJ_tp 3 rfl (Rd_move rfl) rfl (hp _ _) ?_
    refine WJ_bool 20 rfl (fun hg13 => ?_) (fun hg13 => ?_)
    ·try simp only [dz, ne_eq] at hg13
     refine WJ_tp 4 rfl (Rd_move rfl) rfl (hp _ _) ?_
     refine WJ_tp 5 rfl (Rd_move rfl) rfl (hp _ _) ?_
     refine WJ_tp 6 rfl (Rd_index (i1) rfl rfl ud99 sz25 (hj := by omega)) rfl (hp _ _) ?_
     refine WJ_tk 7 (Rd_load_arr (i := i1) (j := 0) rfl tk25 (hl := getA (l := w) (by omega))) hp ?_ rfl (by kernel_rfl) rfl rfl rfl
     refine WJ_tp 8 rfl (Rd_move rfl) rfl (hp _ _) ?_
     refine WJ_tp 9 rfl (Rd_move rfl) rfl (hp _ _) ?_
     refine WJ_tp 10 rfl (Rd_subN (j := 1) rfl rfl) rfl (hp _ _) ?_
     refine WJ_tp 11 rfl (Rd_index (i1 - 1) rfl rfl ud99 sz25 (hj := by omega)) rfl (hp _ _) ?_
     refine WJ_tk 12 (Rd_load_arr (i := i1 - 1) (j := 0) rfl tk25 (hl := getA (l := w) (by omega))) hp ?_ rfl (by kernel_rfl) rfl rfl rfl
     refine WJ_all (rs := [13]) (by kernel_rfl) rfl ?_
     refine WI_one ?_
     refine WI_ac rfl (Ac_call cf84 rfl (hs := lessW_ct (x := w.getD (i1) 0#32) (y := w.getD (i1 - 1) 0#32))) rfl rfl rfl rfl ?_
     rintro _ _ ⟨⟨⟩, rfl, hA⟩
     simp only [List.cons_append, List.nil_append] at hA
     replace hA := hA.symm
     subst hA
     refine ⟨(fun _ => subA), ?_⟩
     refine WJ_tp 14 rfl (Rd_not rfl) rfl (hp _ _) ?_
     refine WJ_tp 15 rfl (Rd_pickT rfl rfl) rfl (hp _ _) ?_
     refine WJ_done (by kernel_rfl) ?_
     refine Ps_next hK12 ?_
     refine WC_cond rfl (fun hc1 => ?_) (fun hc1 => ?_)
     ·try simp only [dz, ne_eq] at hc1
      have hle1 : a < i1 → vA w (i1 - 1) ≤ vA w i1 := by unfold vA at *; omega
      refine WC_skip ?_
      refine Ps_next hK11 ?_
      refine WC_block ?_
      refine WC_region ?_
      refine WL_r (Rd_move rfl) rfl ?_
      refine WL_r (Rd_addN (j := 1) rfl rfl) rfl ?_
      refine WL_r (Rd_assign rfl) rfl ?_
      refine WL_nil ?_
      refine Ps_wkA (hK10 (i1 + 1) (⟨by omega, ordS_snoc hod1 hle1⟩) (by omega))
     ·try simp only [dz, ne_eq] at hc1
      have hlt1 : i1 < b → vA w i1 < vA w (i1 - 1) := by unfold vA at *; omega
      refine WC_exit ?_
      refine Ps_next hK9 ?_
      refine WC_seq fun K14 hK14 => ?_
      refine WC_sr fun K15 hK15 => ?_
      refine WL_r (Rd_move rfl) rfl ?_
      refine WL_r (Rd_move rfl) rfl ?_
      refine WL_r (Rd_eqlN rfl rfl) rfl ?_
      refine WL_end hK15 ?_
      refine WC_cond rfl (fun hc2 => ?_) (fun hc2 => ?_)
      ·try simp only [dz, ne_eq] at hc2
       refine WC_sr fun K16 hK16 => ?_
       refine WL_r (Rd_assign rfl) rfl ?_
       refine WL_end hK16 ?_
       refine WC_ret ?_
       exact hret.go ⟨(true, w), hsw, fun _ p q h0 h1 h2 => hod1 p q h0 h1 (by omega)⟩ (Rs1 rfl rfl)
      ·try simp only [dz, ne_eq] at hc2
       refine WC_skip ?_
       refine Ps_next hK14 ?_
       refine WC_seq fun K17 hK17 => ?_
       refine WC_sr fun K18 hK18 => ?_
       refine WL_r (Rd_move rfl) rfl ?_
       refine WL_r (Rd_move rfl) rfl ?_
       refine WL_r (Rd_subN rfl rfl) rfl ?_
       refine WL_r (Rd_lssN (j := 50) rfl rfl) rfl ?_
       refine WL_end hK18 ?_
       refine WC_cond rfl (fun hc3 => ?_) (fun hc3 => ?_)
       ·try simp only [dz, ne_eq] at hc3
        refine WC_sr fun K19 hK19 => ?_
        refine WL_r (Rd_assign rfl) rfl ?_
        refine WL_end hK19 ?_
        refine WC_ret ?_
        exact hret.go ⟨(false, w), hsw, fun h => by cases h⟩ (Rs1 rfl rfl)
       ·try simp only [dz, ne_eq] at hc3
        have hib : i1 < b := by omega
        have hltw := hlt1 hib
        refine WC_skip ?_
        refine Ps_next hK17 ?_
        refine WC_seq fun K20 hK20 => ?_
        refine WC_drawA mix (fun i => ([2, 2, 2, 2, 2, 2, 2, 2, 2, 2, 2, 2, 2, 2, 2, 0, 2, 0] : List Nat).getD i 0) ?_
        refine WJ_tp 0 rfl (Rd_move rfl) rfl (hp _ _) ?_
        refine WJ_tp 1 rfl (Rd_move rfl) rfl (hp _ _) ?_
        refine WJ_tp 2 rfl (Rd_move rfl) rfl (hp _ _) ?_
        refine WJ_tp 3 rfl (Rd_move rfl) rfl (hp _ _) ?_
        refine WJ_tp 4 rfl (Rd_subN (j := 1) rfl rfl) rfl (hp _ _) ?_
        refine WJ_tp 5 rfl (Rd_move rfl) rfl (hp _ _) ?_
        refine WJ_tp 6 rfl (Rd_move rfl) rfl (hp _ _) ?_
        refine WJ_tp 7 rfl (Rd_subN (j := 1) rfl rfl) rfl (hp _ _) ?_
        refine WJ_tp 8 rfl (Rd_index (i1 - 1) rfl rfl ud99 sz25 (hj := by omega)) rfl (hp _ _) ?_
        refine WJ_tk 9 (Rd_load_arr (i := i1 - 1) (j := 0) rfl tk25 (hl := getA (l := w) (by omega))) hp ?_ rfl (by kernel_rfl) rfl rfl rfl
        refine WJ_tp 10 rfl (Rd_move rfl) rfl (hp _ _) ?_
        refine WJ_tp 11 rfl (Rd_move rfl) rfl (hp _ _) ?_
        refine WJ_tp 12 rfl (Rd_index (i1) rfl rfl ud99 sz25 (hj := by omega)) rfl (hp _ _) ?_
        refine WJ_tk 13 (Rd_load_arr (i := i1) (j := 0) rfl tk25 (hl := getA (l := w) (by omega))) hp ?_ rfl (by kernel_rfl) rfl rfl rfl
        refine WJ_tp 14 rfl (Rd_index (i1) rfl rfl ud99 sz25 (hj := by omega)) rfl (hp _ _) ?_
        refine WJ_all (rs := [15]) (by kernel_rfl) rfl ?_
        refine WI_one ?_
        refine WI_ac0 rfl (Ac_store_arr (w.getD (i1 - 1) 0#32) rfl rfl sz25 (i := i1) (j := 0) (hl := getA (l := w) (by omega))) rfl rfl rfl ?_
        rintro _ _ rfl
        refine ⟨(fun h => by cases h), ?_⟩
        refine WJ_tp 16 rfl (Rd_index (i1 - 1) rfl rfl ud99 sz25 (hj := by omega)) rfl (hp _ _) ?_
        refine WJ_all (rs := [17]) (by kernel_rfl) rfl ?_
        refine WI_one ?_
        refine WI_ac0 rfl (Ac_store_arr (w.getD (i1) 0#32) rfl rfl sz25 (i := i1 - 1) (j := 0) (hl := getA (by rw [List.length_set]; omega))) rfl rfl rfl ?_
        rintro _ _ rfl
        refine ⟨(fun h => by cases h), ?_⟩
        refine WJ_done (by kernel_rfl) ?_
        refine Ps_next hK20 ?_
        refine WC_seq fun K21 hK21 => ?_
        refine WC_sr fun K22 hK22 => ?_
        rw [show (w.set (i1) (w.getD (i1 - 1) 0#32)).set (i1 - 1) (w.getD (i1) 0#32) = swA w (i1) (i1 - 1) from rfl]
        refine WL_r (Rd_move rfl) rfl ?_
        refine WL_r (Rd_move rfl) rfl ?_
        refine WL_r (Rd_subN rfl rfl) rfl ?_
        refine WL_r (Rd_geqN (j := 2) rfl rfl) rfl ?_
        refine WL_end hK22 ?_
        refine WC_meet (B0 := [arr (some ga) cap 1 25 (eU .u32 (w := 32)) (swA w i1 (i1 - 1))]) (σ := (List B32)) (fun v => []) (fun v => [arr (some ga) cap 1 25 (eU .u32 (w := 32)) v]) (fun v => SwR a b l v ∧ ordS v a (i1 + 1) ∧ v.length = n) [0, 1, 2, 6, 7, 8, 10, 13, 14, 15, 16, 17, 18, 19, 20, 21, 22, 23, 24, 25, 26, 27, 28, 29, 30, 31, 32, 33, 34, 35, 36, 37, 38, 39, 40, 41, 42, 43, 44, 45, 46, 47, 48, 49, 50, 51, 52, 53, 54, 55, 56, 57, 58, 59, 60, 61, 95, 96, 97, 98, 99, 100, 101, 102, 103, 104, 105, 106, 107, 108, 109, 110, 111, 112, 113, 114, 115, 116, 117, 118, 119, 120, 121, 122, 123, 124, 125, 126, 127, 128, 129, 130, 131, 132] kpA (by (try dsimp only); repeat (first | with_reducible exact Gv.nil | (with_reducible apply Gv.cons; · (repeat (first | with_reducible exact Ext.here | with_reducible apply Ext.there))))) ?_ ?_
        ·intro hK23
         refine WC_cond rfl (fun hc4 => ?_) (fun hc4 => ?_)
         ·try simp only [dz, ne_eq] at hc4
          refine WC_sr fun K24 hK24 => ?_
          refine WL_r (Rd_move rfl) rfl ?_
          refine WL_r (Rd_subN (j := 1) rfl rfl) rfl ?_
          refine WL_r (Rd_assign rfl) rfl ?_
          refine WL_end hK24 ?_
          refine WC_block ?_
          refine WC_loopK (σ := Nat × (List B32)) (fun ⟨j, v2⟩ => [(9, .int .i64 ((j : Nat) : Int))]) (fun ⟨j, v2⟩ => [arr (some ga) cap 1 25 (eU .u32 (w := 32)) v2]) (fun ⟨j, v2⟩ => (a ≤ j ∧ j ≤ i1 - 1) ∧ SwR a b l v2 ∧ ordF v2 a (i1 + 1) j ∧ v2.length = n) (fun ⟨j, v2⟩ => j) ⟨i1 - 1, swA w i1 (i1 - 1)⟩ [0, 1, 2, 6, 7, 8, 10, 13, 14, 15, 16, 17, 18, 19, 20, 21, 22, 23, 24, 25, 26, 27, 28, 29, 30, 31, 32, 33, 34, 35, 36, 37, 38, 39, 40, 41, 42, 43, 44, 45, 46, 47, 48, 49, 50, 51, 52, 53, 54, 55, 56, 57, 58, 59, 60, 61, 62, 63, 95, 96, 97, 98, 99, 100, 101, 102, 103, 104, 105, 106, 107, 108, 109, 110, 111, 112, 113, 114, 115, 116, 117, 118, 119, 120, 121, 122, 123, 124, 125, 126, 127, 128, 129, 130, 131, 132] kpA (by (try dsimp only); repeat (first | with_reducible exact Gv.nil | (with_reducible apply Gv.cons; · (repeat (first | with_reducible exact Ext.here | with_reducible apply Ext.there))))) ?_ ?_ Sub.refl ?_
          ·exact ⟨by omega, .step hsw (by omega) (by omega) (by omega) (by omega), ordF_step (by omega) (by omega) (by omega) hltw (ordF_of hod1), by rw [swA_len]; exact hwl⟩
          ·(try dsimp only); exact (Wk.cons lkA Wk.nil)
          ·rintro ⟨j, v2⟩ ⟨hj, hsw2, hof, hv2l⟩ K25 hK25
           simp only [List.cons_append, List.nil_append]
           refine WC_seq fun K26 hK26 => ?_
           refine WC_sr fun K27 hK27 => ?_
           refine WL_r (Rd_move rfl) rfl ?_
           refine WL_r (Rd_geqN (j := 1) rfl rfl) rfl ?_
           refine WL_end hK27 ?_
           refine WC_cond rfl (fun hc5 => ?_) (fun hc5 => ?_)
           ·try simp only [dz, ne_eq] at hc5
            refine WC_skip ?_
            refine Ps_next hK26 ?_
            refine WC_seq fun K28 hK28 => ?_
            refine WC_block ?_
            refine WC_seq fun K29 hK29 => ?_
            refine WC_seq fun K30 hK30 => ?_
            refine WC_draw mix [arr (some ga) cap 1 25 (eU .u32 (w := 32)) v2] (fun i => ([2, 2, 2, 2, 2, 2, 2, 2, 2, 1, 2] : List Nat).getD i 0) ?_
            refine WJ_tp 0 rfl (Rd_move rfl) rfl (hp _ _) ?_
            refine WJ_tp 1 rfl (Rd_move rfl) rfl (hp _ _) ?_
            refine WJ_tp 2 rfl (Rd_index (j) rfl rfl ud99 sz25 (hj := by omega)) rfl (hp _ _) ?_
            refine WJ_tk 3 (Rd_load_arr (i := j) (j := 0) rfl tk25 (hl := getA (l := v2) (by omega))) hp ?_ rfl (by kernel_rfl) rfl rfl rfl
            refine WJ_tp 4 rfl (Rd_move rfl) rfl (hp _ _) ?_
            refine WJ_tp 5 rfl (Rd_move rfl) rfl (hp _ _) ?_
            refine WJ_tp 6 rfl (Rd_subN (j := 1) rfl rfl) rfl (hp _ _) ?_
            refine WJ_tp 7 rfl (Rd_index (j - 1) rfl rfl ud99 sz25 (hj := by omega)) rfl (hp _ _) ?_
            refine WJ_tk 8 (Rd_load_arr (i := j - 1) (j := 0) rfl tk25 (hl := getA (l := v2) (by omega))) hp ?_ rfl (by kernel_rfl) rfl rfl rfl
            refine WJ_all (rs := [9]) (by kernel_rfl) rfl ?_
            refine WI_one ?_
            refine WI_ac rfl (Ac_call cf84 rfl (hs := lessW_ct (x := v2.getD (j) 0#32) (y := v2.getD (j - 1) 0#32))) rfl rfl rfl rfl ?_
            rintro _ _ ⟨⟨⟩, rfl, hA⟩
            simp only [List.cons_append, List.nil_append] at hA
            replace hA := hA.symm
            subst hA
            refine ⟨(fun _ => subA), ?_⟩
            refine WJ_tp 10 rfl (Rd_not rfl) rfl (hp _ _) ?_
            refine WJ_done (by kernel_rfl) ?_
            refine Ps_next hK30 ?_
            refine WC_cond rfl (fun hc6 => ?_) (fun hc6 => ?_)
            ·try simp only [dz, ne_eq] at hc6
             have hend : j ≤ a ∨ vA v2 (j - 1) ≤ vA v2 j := .inr (by unfold vA at *; omega)
             refine WC_exit ?_
             refine Ps_wkA (hK23 (v2) (⟨hsw2, ordF_end hend hof, hv2l⟩))
            ·try simp only [dz, ne_eq] at hc6
             have hlt2 : vA v2 j < vA v2 (j - 1) := by unfold vA at *; omega
             have haj := LB_lt (hlb.sw hsw2 (by omega)) (by omega) (by omega) (by omega) hlt2
             refine WC_skip ?_
             refine Ps_next hK29 ?_
             refine WC_drawA mix (fun i => ([2, 2, 2, 2, 2, 2, 2, 2, 2, 2, 2, 2, 2, 2, 2, 0, 2, 0] : List Nat).getD i 0) ?_
             refine WJ_tp 0 rfl (Rd_move rfl) rfl (hp _ _) ?_
             refine WJ_tp 1 rfl (Rd_move rfl) rfl (hp _ _) ?_
             refine WJ_tp 2 rfl (Rd_move rfl) rfl (hp _ _) ?_
             refine WJ_tp 3 rfl (Rd_move rfl) rfl (hp _ _) ?_
             refine WJ_tp 4 rfl (Rd_subN (j := 1) rfl rfl) rfl (hp _ _) ?_
             refine WJ_tp 5 rfl (Rd_move rfl) rfl (hp _ _) ?_
             refine WJ_tp 6 rfl (Rd_move rfl) rfl (hp _ _) ?_
             refine WJ_tp 7 rfl (Rd_subN (j := 1) rfl rfl) rfl (hp _ _) ?_
             refine WJ_tp 8 rfl (Rd_index (j - 1) rfl rfl ud99 sz25 (hj := by omega)) rfl (hp _ _) ?_
             refine WJ_tk 9 (Rd_load_arr (i := j - 1) (j := 0) rfl tk25 (hl := getA (l := v2) (by omega))) hp ?_ rfl (by kernel_rfl) rfl rfl rfl
             refine WJ_tp 10 rfl (Rd_move rfl) rfl (hp _ _) ?_
             refine WJ_tp 11 rfl (Rd_move rfl) rfl (hp _ _) ?_
             refine WJ_tp 12 rfl (Rd_index (j) rfl rfl ud99 sz25 (hj := by omega)) rfl (hp _ _) ?_
             refine WJ_tk 13 (Rd_load_arr (i := j) (j := 0) rfl tk25 (hl := getA (l := v2) (by omega))) hp ?_ rfl (by kernel_rfl) rfl rfl rfl
             refine WJ_tp 14 rfl (Rd_index (j) rfl rfl ud99 sz25 (hj := by omega)) rfl (hp _ _) ?_
             refine WJ_all (rs := [15]) (by kernel_rfl) rfl ?_
             refine WI_one ?_
             refine WI_ac0 rfl (Ac_store_arr (v2.getD (j - 1) 0#32) rfl rfl sz25 (i := j) (j := 0) (hl := getA (l := v2) (by omega))) rfl rfl rfl ?_
             rintro _ _ rfl
             refine ⟨(fun h => by cases h), ?_⟩
             refine WJ_tp 16 rfl (Rd_index (j - 1) rfl rfl ud99 sz25 (hj := by omega)) rfl (hp _ _) ?_
             refine WJ_all (rs := [17]) (by kernel_rfl) rfl ?_
             refine WI_one ?_
             refine WI_ac0 rfl (Ac_store_arr (v2.getD (j) 0#32) rfl rfl sz25 (i := j - 1) (j := 0) (hl := getA (by rw [List.length_set]; omega))) rfl rfl rfl ?_
             rintro _ _ rfl
             refine ⟨(fun h => by cases h), ?_⟩
             refine WJ_done (by kernel_rfl) ?_
             refine Ps_next hK28 ?_
             refine WC_region ?_
             rw [show (v2.set (j) (v2.getD (j - 1) 0#32)).set (j - 1) (v2.getD (j) 0#32) = swA v2 (j) (j - 1) from rfl]
             refine WL_r (Rd_move rfl) rfl ?_
             refine WL_r (Rd_subN (j := 1) rfl rfl) rfl ?_
             refine WL_r (Rd_assign rfl) rfl ?_
             refine WL_nil ?_
             refine Ps_wkA (hK25 ⟨j - 1, swA v2 j (j - 1)⟩ (⟨by (try dsimp only); omega, .step hsw2 (by omega) (by omega) (by omega) (by omega), ordF_step (by omega) haj (by omega) hlt2 hof, by (try dsimp only); rw [swA_len]; exact hv2l⟩) (by (try dsimp only); omega))
           ·try simp only [dz, ne_eq] at hc5
            have hend : j ≤ a ∨ vA v2 (j - 1) ≤ vA v2 j := .inl (by omega)
            refine WC_exit ?_
            refine Ps_wkA (hK23 (v2) (⟨hsw2, ordF_end hend hof, hv2l⟩))
         ·try simp only [dz, ne_eq] at hc4
          refine WC_skip ?_
          refine Ps_wkA (hK23 (swA w i1 (i1 - 1)) (⟨.step hsw (by omega) (by omega) (by omega) (by omega), ordF_end (.inl (by omega)) (ordF_step (by omega) (by omega) (by omega) hltw (ordF_of hod1)), by (try dsimp only); rw [swA_len]; exact hwl⟩))
        ·rintro v ⟨hsv, hov, hvl⟩
         simp only [List.cons_append, List.nil_append]
         refine Ps_next hK21 ?_
         refine WC_sr fun K31 hK31 => ?_
         refine WL_r (Rd_move rfl) rfl ?_
         refine WL_r (Rd_move rfl) rfl ?_
         refine WL_r (Rd_subN rfl rfl) rfl ?_
         refine WL_r (Rd_geqN (j := 2) rfl rfl) rfl ?_
         refine WL_end hK31 ?_
         refine WC_meet (B0 := [arr (some ga) cap 1 25 (eU .u32 (w := 32)) v]) (σ := (List B32)) (fun u => []) (fun u => [arr (some ga) cap 1 25 (eU .u32 (w := 32)) u]) (fun u => SwR a b l u ∧ ordS u a i1 ∧ u.length = n) [0, 1, 2, 6, 7, 8, 9, 13, 14, 15, 16, 17, 18, 19, 20, 21, 22, 23, 24, 25, 26, 27, 28, 29, 30, 31, 32, 33, 34, 35, 36, 37, 38, 39, 40, 41, 42, 43, 44, 45, 46, 47, 48, 49, 50, 51, 52, 53, 54, 55, 56, 57, 58, 59, 60, 61, 62, 63, 64, 65, 66, 67, 68, 69, 70, 71, 72, 73, 74, 75, 76, 77, 78, 79, 80, 81, 82, 83, 84, 85, 86, 87, 88, 89, 90, 91, 92, 93, 94, 95, 96, 97, 98] kpA (by (try dsimp only); repeat (first | with_reducible exact Gv.nil | (with_reducible apply Gv.cons; · (repeat (first | with_reducible exact Ext.here | with_reducible apply Ext.there))))) ?_ ?_
         ·intro hK32
          refine WC_cond rfl (fun hc7 => ?_) (fun hc7 => ?_)
          ·try simp only [dz, ne_eq] at hc7
           refine WC_sr fun K33 hK33 => ?_
           refine WL_r (Rd_move rfl) rfl ?_
           refine WL_r (Rd_addN (j := 1) rfl rfl) rfl ?_
           refine WL_r (Rd_assign rfl) rfl ?_
           refine WL_end hK33 ?_
           refine WC_block ?_
           refine WC_loopK (σ := Nat × (List B32)) (fun ⟨j3, u3⟩ => [(10, .int .i64 ((j3 : Nat) : Int))]) (fun ⟨j3, u3⟩ => [arr (some ga) cap 1 25 (eU .u32 (w := 32)) u3]) (fun ⟨j3, u3⟩ => (i1 + 1 ≤ j3 ∧ j3 ≤ b) ∧ SwR a b l u3 ∧ ordS u3 a i1 ∧ u3.length = n) (fun ⟨j3, u3⟩ => b - j3) ⟨i1 + 1, v⟩ [0, 1, 2, 6, 7, 8, 9, 13, 14, 15, 16, 17, 18, 19, 20, 21, 22, 23, 24, 25, 26, 27, 28, 29, 30, 31, 32, 33, 34, 35, 36, 37, 38, 39, 40, 41, 42, 43, 44, 45, 46, 47, 48, 49, 50, 51, 52, 53, 54, 55, 56, 57, 58, 59, 60, 61, 62, 63, 64, 65, 66, 67, 68, 69, 70, 71, 72, 73, 74, 75, 76, 77, 78, 79, 80, 81, 82, 83, 84, 85, 86, 87, 88, 89, 90, 91, 92, 93, 94, 95, 96, 97, 98, 99, 100] kpA (by (try dsimp only); repeat (first | with_reducible exact Gv.nil | (with_reducible apply Gv.cons; · (repeat (first | with_reducible exact Ext.here | with_reducible apply Ext.there))))) ?_ ?_ Sub.refl ?_
           ·exact ⟨by omega, hsv, fun p q h0 h1 h2 => hov p q h0 h1 (by omega), hvl⟩
           ·(try dsimp only); exact (Wk.cons lkA Wk.nil)
           ·rintro ⟨j3, u3⟩ ⟨hj3, hs3, ho3, hu3l⟩ K34 hK34
            simp only [List.cons_append, List.nil_append]
            refine WC_seq fun K35 hK35 => ?_
            refine WC_sr fun K36 hK36 => ?_
            refine WL_r (Rd_move rfl) rfl ?_
            refine WL_r (Rd_move rfl) rfl ?_
            refine WL_r (Rd_lssN rfl rfl) rfl ?_
            refine WL_end hK36 ?_
            refine WC_cond rfl (fun hc8 => ?_) (fun hc8 => ?_)
            ·try simp only [dz, ne_eq] at hc8
             refine WC_skip ?_
             refine Ps_next hK35 ?_
             refine WC_seq fun K37 hK37 => ?_
             refine WC_block ?_
             refine WC_seq fun K38 hK38 => ?_
             refine WC_seq fun K39 hK39 => ?_
             refine WC_draw mix [arr (some ga) cap 1 25 (eU .u32 (w := 32)) u3] (fun i => ([2, 2, 2, 2, 2, 2, 2, 2, 2, 1, 2] : List Nat).getD i 0) ?_
             refine WJ_tp 0 rfl (Rd_move rfl) rfl (hp _ _) ?_
             refine WJ_tp 1 rfl (Rd_move rfl) rfl (hp _ _) ?_
             refine WJ_tp 2 rfl (Rd_index (j3) rfl rfl ud99 sz25 (hj := by omega)) rfl (hp _ _) ?_
             refine WJ_tk 3 (Rd_load_arr (i := j3) (j := 0) rfl tk25 (hl := getA (l := u3) (by omega))) hp ?_ rfl (by kernel_rfl) rfl rfl rfl
             refine WJ_tp 4 rfl (Rd_move rfl) rfl (hp _ _) ?_
             refine WJ_tp 5 rfl (Rd_move rfl) rfl (hp _ _) ?_
             refine WJ_tp 6 rfl (Rd_subN (j := 1) rfl rfl) rfl (hp _ _) ?_
             refine WJ_tp 7 rfl (Rd_index (j3 - 1) rfl rfl ud99 sz25 (hj := by omega)) rfl (hp _ _) ?_
             refine WJ_tk 8 (Rd_load_arr (i := j3 - 1) (j := 0) rfl tk25 (hl := getA (l := u3) (by omega))) hp ?_ rfl (by kernel_rfl) rfl rfl rfl
             refine WJ_all (rs := [9]) (by kernel_rfl) rfl ?_
             refine WI_one ?_
             refine WI_ac rfl (Ac_call cf84 rfl (hs := lessW_ct (x := u3.getD (j3) 0#32) (y := u3.getD (j3 - 1) 0#32))) rfl rfl rfl rfl ?_
             rintro _ _ ⟨⟨⟩, rfl, hA⟩
             simp only [List.cons_append, List.nil_append] at hA
             replace hA := hA.symm
             subst hA
             refine ⟨(fun _ => subA), ?_⟩
             refine WJ_tp 10 rfl (Rd_not rfl) rfl (hp _ _) ?_
             refine WJ_done (by kernel_rfl) ?_
             refine Ps_next hK39 ?_
             refine WC_cond rfl (fun hc9 => ?_) (fun hc9 => ?_)
             ·try simp only [dz, ne_eq] at hc9
              refine WC_exit ?_
              refine Ps_wkA (hK32 (u3) (⟨hs3, ho3, hu3l⟩))
             ·try simp only [dz, ne_eq] at hc9
              refine WC_skip ?_
              refine Ps_next hK38 ?_
              refine WC_drawA mix (fun i => ([2, 2, 2, 2, 2, 2, 2, 2, 2, 2, 2, 2, 2, 2, 2, 0, 2, 0] : List Nat).getD i 0) ?_
              refine WJ_tp 0 rfl (Rd_move rfl) rfl (hp _ _) ?_
              refine WJ_tp 1 rfl (Rd_move rfl) rfl (hp _ _) ?_
              refine WJ_tp 2 rfl (Rd_move rfl) rfl (hp _ _) ?_
              refine WJ_tp 3 rfl (Rd_move rfl) rfl (hp _ _) ?_
              refine WJ_tp 4 rfl (Rd_subN (j := 1) rfl rfl) rfl (hp _ _) ?_
              refine WJ_tp 5 rfl (Rd_move rfl) rfl (hp _ _) ?_
              refine WJ_tp 6 rfl (Rd_move rfl) rfl (hp _ _) ?_
              refine WJ_tp 7 rfl (Rd_subN (j := 1) rfl rfl) rfl (hp _ _) ?_
              refine WJ_tp 8 rfl (Rd_index (j3 - 1) rfl rfl ud99 sz25 (hj := by omega)) rfl (hp _ _) ?_
              refine WJ_tk 9 (Rd_load_arr (i := j3 - 1) (j := 0) rfl tk25 (hl := getA (l := u3) (by omega))) hp ?_ rfl (by kernel_rfl) rfl rfl rfl
              refine WJ_tp 10 rfl (Rd_move rfl) rfl (hp _ _) ?_
              refine WJ_tp 11 rfl (Rd_move rfl) rfl (hp _ _) ?_
              refine WJ_tp 12 rfl (Rd_index (j3) rfl rfl ud99 sz25 (hj := by omega)) rfl (hp _ _) ?_
              refine WJ_tk 13 (Rd_load_arr (i := j3) (j := 0) rfl tk25 (hl := getA (l := u3) (by omega))) hp ?_ rfl (by kernel_rfl) rfl rfl rfl
              refine WJ_tp 14 rfl (Rd_index (j3) rfl rfl ud99 sz25 (hj := by omega)) rfl (hp _ _) ?_
              refine WJ_all (rs := [15]) (by kernel_rfl) rfl ?_
              refine WI_one ?_
              refine WI_ac0 rfl (Ac_store_arr (u3.getD (j3 - 1) 0#32) rfl rfl sz25 (i := j3) (j := 0) (hl := getA (l := u3) (by omega))) rfl rfl rfl ?_
              rintro _ _ rfl
              refine ⟨(fun h => by cases h), ?_⟩
              refine WJ_tp 16 rfl (Rd_index (j3 - 1) rfl rfl ud99 sz25 (hj := by omega)) rfl (hp _ _) ?_
              refine WJ_all (rs := [17]) (by kernel_rfl) rfl ?_
              refine WI_one ?_
              refine WI_ac0 rfl (Ac_store_arr (u3.getD (j3) 0#32) rfl rfl sz25 (i := j3 - 1) (j := 0) (hl := getA (by rw [List.length_set]; omega))) rfl rfl rfl ?_
              rintro _ _ rfl
              refine ⟨(fun h => by cases h), ?_⟩
              refine WJ_done (by kernel_rfl) ?_
              refine Ps_next hK37 ?_
              refine WC_region ?_
              rw [show (u3.set (j3) (u3.getD (j3 - 1) 0#32)).set (j3 - 1) (u3.getD (j3) 0#32) = swA u3 (j3) (j3 - 1) from rfl]
              refine WL_r (Rd_move rfl) rfl ?_
              refine WL_r (Rd_addN (j := 1) rfl rfl) rfl ?_
              refine WL_r (Rd_assign rfl) rfl ?_
              refine WL_nil ?_
              refine Ps_wkA (hK34 ⟨j3 + 1, swA u3 j3 (j3 - 1)⟩ (⟨by (try dsimp only); omega, .step hs3 (by omega) (by omega) (by omega) (by omega), ordS_out ho3 (SwR.step (b := b) .refl (by omega) (by omega) (by omega) (by omega)) (by omega), by (try dsimp only); rw [swA_len]; exact hu3l⟩) (by (try dsimp only); omega))
            ·try simp only [dz, ne_eq] at hc8
             refine WC_exit ?_
             refine Ps_wkA (hK32 (u3) (⟨hs3, ho3, hu3l⟩))
          ·try simp only [dz, ne_eq] at hc7
           refine WC_skip ?_
           refine Ps_wkA (hK32 (v) (⟨hsv, fun p q h0 h1 h2 => hov p q h0 h1 (by omega), hvl⟩))
         ·rintro u ⟨hsu, hou, hul⟩
          simp only [List.cons_append, List.nil_append]
          refine Ps_next hK8 ?_
          refine WC_region ?_
          refine WL_r (Rd_move rfl) rfl ?_
          refine WL_r (Rd_addN (j := 1) rfl rfl) rfl ?_
          refine WL_r (Rd_assign rfl) rfl ?_
          refine WL_nil ?_
          refine Ps_wkA (hK5 ⟨i1, q + 1, u⟩ (⟨by (try dsimp only); omega, hsu, hou, hul⟩) (by (try dsimp only); omega))
    ·try simp only [dz, ne_eq] at hg13
     refine WJ_skip 4 rfl (by kernel_rfl) rfl rfl rfl (hp _ _) ?_
     refine WJ_skip 5 rfl (by kernel_rfl) rfl rfl rfl (hp _ _) ?_
     refine WJ_skip 6 rfl (by kernel_rfl) rfl rfl rfl (hp _ _) ?_
     refine WJ_skip 7 rfl (by kernel_rfl) rfl rfl rfl (hp _ _) ?_
     refine WJ_skip 8 rfl (by kernel_rfl) rfl rfl rfl (hp _ _) ?_
     refine WJ_skip 9 rfl (by kernel_rfl) rfl rfl rfl (hp _ _) ?_
     refine WJ_skip 10 rfl (by kernel_rfl) rfl rfl rfl (hp _ _) ?_
     refine WJ_skip 11 rfl (by kernel_rfl) rfl rfl rfl (hp _ _) ?_
     refine WJ_skip 12 rfl (by kernel_rfl) rfl rfl rfl (hp _ _) ?_
     refine WJ_all (rs := [13]) (by kernel_rfl) rfl ?_
     refine WI_one ?_
     refine WI_skip rfl rfl rfl rfl (fun _ => subA) ?_
     refine WJ_skip 14 rfl (by kernel_rfl) rfl rfl rfl (hp _ _) ?_
     refine WJ_tp 15 rfl (Rd_pickF rfl rfl) rfl (hp _ _) ?_
     refine WJ_done (by kernel_rfl) ?_
     refine Ps_next hK12 ?_
     refine WC_condF rfl ?_
     have hlt1 : i1 < b → vA w i1 < vA w (i1 - 1) := by unfold vA at *; omega
     refine WC_exit ?_
     refine Ps_next hK9 ?_
     refine WC_seq fun K40 hK40 => ?_
     refine WC_sr fun K41 hK41 => ?_
     refine WL_r (Rd_move rfl) rfl ?_
     refine WL_r (Rd_move rfl) rfl ?_
     refine WL_r (Rd_eqlN rfl rfl) rfl ?_
     refine WL_end hK41 ?_
     refine WC_cond rfl (fun hc2 => ?_) (fun hc2 => ?_)
     ·try simp only [dz, ne_eq] at hc2
      refine WC_sr fun K42 hK42 => ?_
      refine WL_r (Rd_assign rfl) rfl ?_
      refine WL_end hK42 ?_
      refine WC_ret ?_
      exact hret.go ⟨(true, w), hsw, fun _ p q h0 h1 h2 => hod1 p q h0 h1 (by omega)⟩ (Rs1 rfl rfl)
     ·try simp only [dz, ne_eq] at hc2
      refine WC_skip ?_
      refine Ps_next hK40 ?_
      refine WC_seq fun K43 hK43 => ?_
      refine WC_sr fun K44 hK44 => ?_
      refine WL_r (Rd_move rfl) rfl ?_
      refine WL_r (Rd_move rfl) rfl ?_
      refine WL_r (Rd_subN rfl rfl) rfl ?_
      refine WL_r (Rd_lssN (j := 50) rfl rfl) rfl ?_
      refine WL_end hK44 ?_
      refine WC_cond rfl (fun hc3 => ?_) (fun hc3 => ?_)
      ·try simp only [dz, ne_eq] at hc3
       refine WC_sr fun K45 hK45 => ?_
       refine WL_r (Rd_assign rfl) rfl ?_
       refine WL_end hK45 ?_
       refine WC_ret ?_
       exact hret.go ⟨(false, w), hsw, fun h => by cases h⟩ (Rs1 rfl rfl)
      ·try simp only [dz, ne_eq] at hc3
       have hib : i1 < b := by omega
       have hltw := hlt1 hib
       refine WC_skip ?_
       refine Ps_next hK43 ?_
       refine WC_seq fun K46 hK46 => ?_
       refine WC_drawA mix (fun i => ([2, 2, 2, 2, 2, 2, 2, 2, 2, 2, 2, 2, 2, 2, 2, 0, 2, 0] : List Nat).getD i 0) ?_
       refine WJ_tp 0 rfl (Rd_move rfl) rfl (hp _ _) ?_
       refine WJ_tp 1 rfl (Rd_move rfl) rfl (hp _ _) ?_
       refine WJ_tp 2 rfl (Rd_move rfl) rfl (hp _ _) ?_
       refine WJ_tp 3 rfl (Rd_move rfl) rfl (hp _ _) ?_
       refine WJ_tp 4 rfl (Rd_subN (j := 1) rfl rfl) rfl (hp _ _) ?_
       refine WJ_tp 5 rfl (Rd_move rfl) rfl (hp _ _) ?_
       refine WJ_tp 6 rfl (Rd_move rfl) rfl (hp _ _) ?_
       refine WJ_tp 7 rfl (Rd_subN (j := 1) rfl rfl) rfl (hp _ _) ?_
       refine WJ_tp 8 rfl (Rd_index (i1 - 1) rfl rfl ud99 sz25 (hj := by omega)) rfl (hp _ _) ?_
       refine WJ_tk 9 (Rd_load_arr (i := i1 - 1) (j := 0) rfl tk25 (hl := getA (l := w) (by omega))) hp ?_ rfl (by kernel_rfl) rfl rfl rfl
       refine WJ_tp 10 rfl (Rd_move rfl) rfl (hp _ _) ?_
       refine WJ_tp 11 rfl (Rd_move rfl) rfl (hp _ _) ?_
       refine WJ_tp 12 rfl (Rd_index (i1) rfl rfl ud99 sz25 (hj := by omega)) rfl (hp _ _) ?_
       refine WJ_tk 13 (Rd_load_arr (i := i1) (j := 0) rfl tk25 (hl := getA (l := w) (by omega))) hp ?_ rfl (by kernel_rfl) rfl rfl rfl
       refine WJ_tp 14 rfl (Rd_index (i1) rfl rfl ud99 sz25 (hj := by omega)) rfl (hp _ _) ?_
       refine WJ_all (rs := [15]) (by kernel_rfl) rfl ?_
       refine WI_one ?_
       refine WI_ac0 rfl (Ac_store_arr (w.getD (i1 - 1) 0#32) rfl rfl sz25 (i := i1) (j := 0) (hl := getA (l := w) (by omega))) rfl rfl rfl ?_
       rintro _ _ rfl
       refine ⟨(fun h => by cases h), ?_⟩
       refine WJ_tp 16 rfl (Rd_index (i1 - 1) rfl rfl ud99 sz25 (hj := by omega)) rfl (hp _ _) ?_
       refine WJ_all (rs := [17]) (by kernel_rfl) rfl ?_
       refine WI_one ?_
       refine WI_ac0 rfl (Ac_store_arr (w.getD (i1) 0#32) rfl rfl sz25 (i := i1 - 1) (j := 0) (hl := getA (by rw [List.length_set]; omega))) rfl rfl rfl ?_
       rintro _ _ rfl
       refine ⟨(fun h => by cases h), ?_⟩
       refine WJ_done (by kernel_rfl) ?_
       refine Ps_next hK46 ?_
       refine WC_seq fun K47 hK47 => ?_
       refine WC_sr fun K48 hK48 => ?_
       rw [show (w.set (i1) (w.getD (i1 - 1) 0#32)).set (i1 - 1) (w.getD (i1) 0#32) = swA w (i1) (i1 - 1) from rfl]
       refine WL_r (Rd_move rfl) rfl ?_
       refine WL_r (Rd_move rfl) rfl ?_
       refine WL_r (Rd_subN rfl rfl) rfl ?_
       refine WL_r (Rd_geqN (j := 2) rfl rfl) rfl ?_
       refine WL_end hK48 ?_
       refine WC_meet (B0 := [arr (some ga) cap 1 25 (eU .u32 (w := 32)) (swA w i1 (i1 - 1))]) (σ := (List B32)) (fun v => []) (fun v => [arr (some ga) cap 1 25 (eU .u32 (w := 32)) v]) (fun v => SwR a b l v ∧ ordS v a (i1 + 1) ∧ v.length = n) [0, 1, 2, 6, 7, 8, 10, 13, 14, 15, 16, 17, 18, 19, 20, 21, 22, 23, 24, 25, 26, 27, 28, 29, 30, 31, 32, 33, 34, 35, 36, 37, 38, 39, 40, 41, 42, 43, 44, 45, 46, 47, 48, 49, 50, 51, 52, 53, 54, 55, 56, 57, 58, 59, 60, 61, 95, 96, 97, 98, 99, 100, 101, 102, 103, 104, 105, 106, 107, 108, 109, 110, 111, 112, 113, 114, 115, 116, 117, 118, 119, 120, 121, 122, 123, 124, 125, 126, 127, 128, 129, 130, 131, 132] kpA (by (try dsimp only); repeat (first | with_reducible exact Gv.nil | (with_reducible apply Gv.cons; · (repeat (first | with_reducible exact Ext.here | with_reducible apply Ext.there))))) ?_ ?_
       ·intro hK49
        refine WC_cond rfl (fun hc4 => ?_) (fun hc4 => ?_)
        ·try simp only [dz, ne_eq] at hc4
         refine WC_sr fun K50 hK50 => ?_
         refine WL_r (Rd_move rfl) rfl ?_
         refine WL_r (Rd_subN (j := 1) rfl rfl) rfl ?_
         refine WL_r (Rd_assign rfl) rfl ?_
         refine WL_end hK50 ?_
         refine WC_block ?_
         refine WC_loopK (σ := Nat × (List B32)) (fun ⟨j, v2⟩ => [(9, .int .i64 ((j : Nat) : Int))]) (fun ⟨j, v2⟩ => [arr (some ga) cap 1 25 (eU .u32 (w := 32)) v2]) (fun ⟨j, v2⟩ => (a ≤ j ∧ j ≤ i1 - 1) ∧ SwR a b l v2 ∧ ordF v2 a (i1 + 1) j ∧ v2.length = n) (fun ⟨j, v2⟩ => j) ⟨i1 - 1, swA w i1 (i1 - 1)⟩ [0, 1, 2, 6, 7, 8, 10, 13, 14, 15, 16, 17, 18, 19, 20, 21, 22, 23, 24, 25, 26, 27, 28, 29, 30, 31, 32, 33, 34, 35, 36, 37, 38, 39, 40, 41, 42, 43, 44, 45, 46, 47, 48, 49, 50, 51, 52, 53, 54, 55, 56, 57, 58, 59, 60, 61, 62, 63, 95, 96, 97, 98, 99, 100, 101, 102, 103, 104, 105, 106, 107, 108, 109, 110, 111, 112, 113, 114, 115, 116, 117, 118, 119, 120, 121, 122, 123, 124, 125, 126, 127, 128, 129, 130, 131, 132] kpA (by (try dsimp only); repeat (first | with_reducible exact Gv.nil | (with_reducible apply Gv.cons; · (repeat (first | with_reducible exact Ext.here | with_reducible apply Ext.there))))) ?_ ?_ Sub.refl ?_
         ·exact ⟨by omega, .step hsw (by omega) (by omega) (by omega) (by omega), ordF_step (by omega) (by omega) (by omega) hltw (ordF_of hod1), by rw [swA_len]; exact hwl⟩
         ·(try dsimp only); exact (Wk.cons lkA Wk.nil)
         ·rintro ⟨j, v2⟩ ⟨hj, hsw2, hof, hv2l⟩ K51 hK51
          simp only [List.cons_append, List.nil_append]
          refine WC_seq fun K52 hK52 => ?_
          refine WC_sr fun K53 hK53 => ?_
          refine WL_r (Rd_move rfl) rfl ?_
          refine WL_r (Rd_geqN (j := 1) rfl rfl) rfl ?_
          refine WL_end hK53 ?_
          refine WC_cond rfl (fun hc5 => ?_) (fun hc5 => ?_)
          ·try simp only [dz, ne_eq] at hc5
           refine WC_skip ?_
           refine Ps_next hK52 ?_
           refine WC_seq fun K54 hK54 => ?_
           refine WC_block ?_
           refine WC_seq fun K55 hK55 => ?_
           refine WC_seq fun K56 hK56 => ?_
           refine WC_draw mix [arr (some ga) cap 1 25 (eU .u32 (w := 32)) v2] (fun i => ([2, 2, 2, 2, 2, 2, 2, 2, 2, 1, 2] : List Nat).getD i 0) ?_
           refine WJ_tp 0 rfl (Rd_move rfl) rfl (hp _ _) ?_
           refine WJ_tp 1 rfl (Rd_move rfl) rfl (hp _ _) ?_
           refine WJ_tp 2 rfl (Rd_index (j) rfl rfl ud99 sz25 (hj := by omega)) rfl (hp _ _) ?_
           refine WJ_tk 3 (Rd_load_arr (i := j) (j := 0) rfl tk25 (hl := getA (l := v2) (by omega))) hp ?_ rfl (by kernel_rfl) rfl rfl rfl
           refine WJ_tp 4 rfl (Rd_move rfl) rfl (hp _ _) ?_
           refine WJ_tp 5 rfl (Rd_move rfl) rfl (hp _ _) ?_
           refine WJ_tp 6 rfl (Rd_subN (j := 1) rfl rfl) rfl (hp _ _) ?_
           refine WJ_tp 7 rfl (Rd_index (j - 1) rfl rfl ud99 sz25 (hj := by omega)) rfl (hp _ _) ?_
           refine WJ_tk 8 (Rd_load_arr (i := j - 1) (j := 0) rfl tk25 (hl := getA (l := v2) (by omega))) hp ?_ rfl (by kernel_rfl) rfl rfl rfl
           refine WJ_all (rs := [9]) (by kernel_rfl) rfl ?_
           refine WI_one ?_
           refine WI_ac rfl (Ac_call cf84 rfl (hs := lessW_ct (x := v2.getD (j) 0#32) (y := v2.getD (j - 1) 0#32))) rfl rfl rfl rfl ?_
           rintro _ _ ⟨⟨⟩, rfl, hA⟩
           simp only [List.cons_append, List.nil_append] at hA
           replace hA := hA.symm
           subst hA
           refine ⟨(fun _ => subA), ?_⟩
           refine WJ_tp 10 rfl (Rd_not rfl) rfl (hp _ _) ?_
           refine WJ_done (by kernel_rfl) ?_
           refine Ps_next hK56 ?_
           refine WC_cond rfl (fun hc6 => ?_) (fun hc6 => ?_)
           ·try simp only [dz, ne_eq] at hc6
            have hend : j ≤ a ∨ vA v2 (j - 1) ≤ vA v2 j := .inr (by unfold vA at *; omega)
            refine WC_exit ?_
            refine Ps_wkA (hK49 (v2) (⟨hsw2, ordF_end hend hof, hv2l⟩))
           ·try simp only [dz, ne_eq] at hc6
            have hlt2 : vA v2 j < vA v2 (j - 1) := by unfold vA at *; omega
            have haj := LB_lt (hlb.sw hsw2 (by omega)) (by omega) (by omega) (by omega) hlt2
            refine WC_skip ?_
            refine Ps_next hK55 ?_
            refine WC_drawA mix (fun i => ([2, 2, 2, 2, 2, 2, 2, 2, 2, 2, 2, 2, 2, 2, 2, 0, 2, 0] : List Nat).getD i 0) ?_
            refine WJ_tp 0 rfl (Rd_move rfl) rfl (hp _ _) ?_
            refine WJ_tp 1 rfl (Rd_move rfl) rfl (hp _ _) ?_
            refine WJ_tp 2 rfl (Rd_move rfl) rfl (hp _ _) ?_
            refine WJ_tp 3 rfl (Rd_move rfl) rfl (hp _ _) ?_
            refine WJ_tp 4 rfl (Rd_subN (j := 1) rfl rfl) rfl (hp _ _) ?_
            refine WJ_tp 5 rfl (Rd_move rfl) rfl (hp _ _) ?_
            refine WJ_tp 6 rfl (Rd_move rfl) rfl (hp _ _) ?_
            refine WJ_tp 7 rfl (Rd_subN (j := 1) rfl rfl) rfl (hp _ _) ?_
            refine WJ_tp 8 rfl (Rd_index (j - 1) rfl rfl ud99 sz25 (hj := by omega)) rfl (hp _ _) ?_
            refine WJ_tk 9 (Rd_load_arr (i := j - 1) (j := 0) rfl tk25 (hl := getA (l := v2) (by omega))) hp ?_ rfl (by kernel_rfl) rfl rfl rfl
            refine WJ_tp 10 rfl (Rd_move rfl) rfl (hp _ _) ?_
            refine WJ_tp 11 rfl (Rd_move rfl) rfl (hp _ _) ?_
            refine WJ_tp 12 rfl (Rd_index (j) rfl rfl ud99 sz25 (hj := by omega)) rfl (hp _ _) ?_
            refine WJ_tk 13 (Rd_load_arr (i := j) (j := 0) rfl tk25 (hl := getA (l := v2) (by omega))) hp ?_ rfl (by kernel_rfl) rfl rfl rfl
            refine WJ_tp 14 rfl (Rd_index (j) rfl rfl ud99 sz25 (hj := by omega)) rfl (hp _ _) ?_
            refine WJ_all (rs := [15]) (by kernel_rfl) rfl ?_
            refine WI_one ?_
            refine WI_ac0 rfl (Ac_store_arr (v2.getD (j - 1) 0#32) rfl rfl sz25 (i := j) (j := 0) (hl := getA (l := v2) (by omega))) rfl rfl rfl ?_
            rintro _ _ rfl
            refine ⟨(fun h => by cases h), ?_⟩
            refine WJ_tp 16 rfl (Rd_index (j - 1) rfl rfl ud99 sz25 (hj := by omega)) rfl (hp _ _) ?_
            refine WJ_all (rs := [17]) (by kernel_rfl) rfl ?_
            refine WI_one ?_
            refine WI_ac0 rfl (Ac_store_arr (v2.getD (j) 0#32) rfl rfl sz25 (i := j - 1) (j := 0) (hl := getA (by rw [List.length_set]; omega))) rfl rfl rfl ?_
            rintro _ _ rfl
            refine ⟨(fun h => by cases h), ?_⟩
            refine WJ_done (by kernel_rfl) ?_
            refine Ps_next hK54 ?_
            refine WC_region ?_
            rw [show (v2.set (j) (v2.getD (j - 1) 0#32)).set (j - 1) (v2.getD (j) 0#32) = swA v2 (j) (j - 1) from rfl]
            refine WL_r (Rd_move rfl) rfl ?_
            refine WL_r (Rd_subN (j := 1) rfl rfl) rfl ?_
            refine WL_r (Rd_assign rfl) rfl ?_
            refine WL_nil ?_
            refine Ps_wkA (hK51 ⟨j - 1, swA v2 j (j - 1)⟩ (⟨by (try dsimp only); omega, .step hsw2 (by omega) (by omega) (by omega) (by omega), ordF_step (by omega) haj (by omega) hlt2 hof, by (try dsimp only); rw [swA_len]; exact hv2l⟩) (by (try dsimp only); omega))
          ·try simp only [dz, ne_eq] at hc5
           have hend : j ≤ a ∨ vA v2 (j - 1) ≤ vA v2 j := .inl (by omega)
           refine WC_exit ?_
           refine Ps_wkA (hK49 (v2) (⟨hsw2, ordF_end hend hof, hv2l⟩))
        ·try simp only [dz, ne_eq] at hc4
         refine WC_skip ?_
         refine Ps_wkA (hK49 (swA w i1 (i1 - 1)) (⟨.step hsw (by omega) (by omega) (by omega) (by omega), ordF_end (.inl (by omega)) (ordF_step (by omega) (by omega) (by omega) hltw (ordF_of hod1)), by (try dsimp only); rw [swA_len]; exact hwl⟩))
       ·rintro v ⟨hsv, hov, hvl⟩
        simp only [List.cons_append, List.nil_append]
        refine Ps_next hK47 ?_
        refine WC_sr fun K57 hK57 => ?_
        refine WL_r (Rd_move rfl) rfl ?_
        refine WL_r (Rd_move rfl) rfl ?_
        refine WL_r (Rd_subN rfl rfl) rfl ?_
        refine WL_r (Rd_geqN (j := 2) rfl rfl) rfl ?_
        refine WL_end hK57 ?_
        refine WC_meet (B0 := [arr (some ga) cap 1 25 (eU .u32 (w := 32)) v]) (σ := (List B32)) (fun u => []) (fun u => [arr (some ga) cap 1 25 (eU .u32 (w := 32)) u]) (fun u => SwR a b l u ∧ ordS u a i1 ∧ u.length = n) [0, 1, 2, 6, 7, 8, 9, 13, 14, 15, 16, 17, 18, 19, 20, 21, 22, 23, 24, 25, 26, 27, 28, 29, 30, 31, 32, 33, 34, 35, 36, 37, 38, 39, 40, 41, 42, 43, 44, 45, 46, 47, 48, 49, 50, 51, 52, 53, 54, 55, 56, 57, 58, 59, 60, 61, 62, 63, 64, 65, 66, 67, 68, 69, 70, 71, 72, 73, 74, 75, 76, 77, 78, 79, 80, 81, 82, 83, 84, 85, 86, 87, 88, 89, 90, 91, 92, 93, 94, 95, 96, 97, 98] kpA (by (try dsimp only); repeat (first | with_reducible exact Gv.nil | (with_reducible apply Gv.cons; · (repeat (first | with_reducible exact Ext.here | with_reducible apply Ext.there))))) ?_ ?_
        ·intro hK58
         refine WC_cond rfl (fun hc7 => ?_) (fun hc7 => ?_)
         ·try simp only [dz, ne_eq] at hc7
          refine WC_sr fun K59 hK59 => ?_
          refine WL_r (Rd_move rfl) rfl ?_
          refine WL_r (Rd_addN (j := 1) rfl rfl) rfl ?_
          refine WL_r (Rd_assign rfl) rfl ?_
          refine WL_end hK59 ?_
          refine WC_block ?_
          refine WC_loopK (σ := Nat × (List B32)) (fun ⟨j3, u3⟩ => [(10, .int .i64 ((j3 : Nat) : Int))]) (fun ⟨j3, u3⟩ => [arr (some ga) cap 1 25 (eU .u32 (w := 32)) u3]) (fun ⟨j3, u3⟩ => (i1 + 1 ≤ j3 ∧ j3 ≤ b) ∧ SwR a b l u3 ∧ ordS u3 a i1 ∧ u3.length = n) (fun ⟨j3, u3⟩ => b - j3) ⟨i1 + 1, v⟩ [0, 1, 2, 6, 7, 8, 9, 13, 14, 15, 16, 17, 18, 19, 20, 21, 22, 23, 24, 25, 26, 27, 28, 29, 30, 31, 32, 33, 34, 35, 36, 37, 38, 39, 40, 41, 42, 43, 44, 45, 46, 47, 48, 49, 50, 51, 52, 53, 54, 55, 56, 57, 58, 59, 60, 61, 62, 63, 64, 65, 66, 67, 68, 69, 70, 71, 72, 73, 74, 75, 76, 77, 78, 79, 80, 81, 82, 83, 84, 85, 86, 87, 88, 89, 90, 91, 92, 93, 94, 95, 96, 97, 98, 99, 100] kpA (by (try dsimp only); repeat (first | with_reducible exact Gv.nil | (with_reducible apply Gv.cons; · (repeat (first | with_reducible exact Ext.here | with_reducible apply Ext.there))))) ?_ ?_ Sub.refl ?_
          ·exact ⟨by omega, hsv, fun p q h0 h1 h2 => hov p q h0 h1 (by omega), hvl⟩
          ·(try dsimp only); exact (Wk.cons lkA Wk.nil)
          ·rintro ⟨j3, u3⟩ ⟨hj3, hs3, ho3, hu3l⟩ K60 hK60
           simp only [List.cons_append, List.nil_append]
           refine WC_seq fun K61 hK61 => ?_
           refine WC_sr fun K62 hK62 => ?_
           refine WL_r (Rd_move rfl) rfl ?_
           refine WL_r (Rd_move rfl) rfl ?_
           refine WL_r (Rd_lssN rfl rfl) rfl ?_
           refine WL_end hK62 ?_
           refine WC_cond rfl (fun hc8 => ?_) (fun hc8 => ?_)
           ·try simp only [dz, ne_eq] at hc8
            refine WC_skip ?_
            refine Ps_next hK61 ?_
            refine WC_seq fun K63 hK63 => ?_
            refine WC_block ?_
            refine WC_seq fun K64 hK64 => ?_
            refine WC_seq fun K65 hK65 => ?_
            refine WC_draw mix [arr (some ga) cap 1 25 (eU .u32 (w := 32)) u3] (fun i => ([2, 2, 2, 2, 2, 2, 2, 2, 2, 1, 2] : List Nat).getD i 0) ?_
            refine WJ_tp 0 rfl (Rd_move rfl) rfl (hp _ _) ?_
            refine WJ_tp 1 rfl (Rd_move rfl) rfl (hp _ _) ?_
            refine WJ_tp 2 rfl (Rd_index (j3) rfl rfl ud99 sz25 (hj := by omega)) rfl (hp _ _) ?_
            refine WJ_tk 3 (Rd_load_arr (i := j3) (j := 0) rfl tk25 (hl := getA (l := u3) (by omega))) hp ?_ rfl (by kernel_rfl) rfl rfl rfl
            refine WJ_tp 4 rfl (Rd_move rfl) rfl (hp _ _) ?_
            refine WJ_tp 5 rfl (Rd_move rfl) rfl (hp _ _) ?_
            refine WJ_tp 6 rfl (Rd_subN (j := 1) rfl rfl) rfl (hp _ _) ?_
            refine WJ_tp 7 rfl (Rd_index (j3 - 1) rfl rfl ud99 sz25 (hj := by omega)) rfl (hp _ _) ?_
            refine WJ_tk 8 (Rd_load_arr (i := j3 - 1) (j := 0) rfl tk25 (hl := getA (l := u3) (by omega))) hp ?_ rfl (by kernel_rfl) rfl rfl rfl
            refine WJ_all (rs := [9]) (by kernel_rfl) rfl ?_
            refine WI_one ?_
            refine WI_ac rfl (Ac_call cf84 rfl (hs := lessW_ct (x := u3.getD (j3) 0#32) (y := u3.getD (j3 - 1) 0#32))) rfl rfl rfl rfl ?_
            rintro _ _ ⟨⟨⟩, rfl, hA⟩
            simp only [List.cons_append, List.nil_append] at hA
            replace hA := hA.symm
            subst hA
            refine ⟨(fun _ => subA), ?_⟩
            refine WJ_tp 10 rfl (Rd_not rfl) rfl (hp _ _) ?_
            refine WJ_done (by kernel_rfl) ?_
            refine Ps_next hK65 ?_
            refine WC_cond rfl (fun hc9 => ?_) (fun hc9 => ?_)
            ·try simp only [dz, ne_eq] at hc9
             refine WC_exit ?_
             refine Ps_wkA (hK58 (u3) (⟨hs3, ho3, hu3l⟩))
            ·try simp only [dz, ne_eq] at hc9
             refine WC_skip ?_
             refine Ps_next hK64 ?_
             refine WC_drawA mix (fun i => ([2, 2, 2, 2, 2, 2, 2, 2, 2, 2, 2, 2, 2, 2, 2, 0, 2, 0] : List Nat).getD i 0) ?_
             refine WJ_tp 0 rfl (Rd_move rfl) rfl (hp _ _) ?_
             refine WJ_tp 1 rfl (Rd_move rfl) rfl (hp _ _) ?_
             refine WJ_tp 2 rfl (Rd_move rfl) rfl (hp _ _) ?_
             refine WJ_tp 3 rfl (Rd_move rfl) rfl (hp _ _) ?_
             refine WJ_tp 4 rfl (Rd_subN (j := 1) rfl rfl) rfl (hp _ _) ?_
             refine WJ_tp 5 rfl (Rd_move rfl) rfl (hp _ _) ?_
             refine WJ_tp 6 rfl (Rd_move rfl) rfl (hp _ _) ?_
             refine WJ_tp 7 rfl (Rd_subN (j := 1) rfl rfl) rfl (hp _ _) ?_
             refine WJ_tp 8 rfl (Rd_index (j3 - 1) rfl rfl ud99 sz25 (hj := by omega)) rfl (hp _ _) ?_
             refine WJ_tk 9 (Rd_load_arr (i := j3 - 1) (j := 0) rfl tk25 (hl := getA (l := u3) (by omega))) hp ?_ rfl (by kernel_rfl) rfl rfl rfl
             refine WJ_tp 10 rfl (Rd_move rfl) rfl (hp _ _) ?_
             refine WJ_tp 11 rfl (Rd_move rfl) rfl (hp _ _) ?_
             refine WJ_tp 12 rfl (Rd_index (j3) rfl rfl ud99 sz25 (hj := by omega)) rfl (hp _ _) ?_
             refine WJ_tk 13 (Rd_load_arr (i := j3) (j := 0) rfl tk25 (hl := getA (l := u3) (by omega))) hp ?_ rfl (by kernel_rfl) rfl rfl rfl
             refine WJ_tp 14 rfl (Rd_index (j3) rfl rfl ud99 sz25 (hj := by omega)) rfl (hp _ _) ?_
             refine WJ_all (rs := [15]) (by kernel_rfl) rfl ?_
             refine WI_one ?_
             refine WI_ac0 rfl (Ac_store_arr (u3.getD (j3 - 1) 0#32) rfl rfl sz25 (i := j3) (j := 0) (hl := getA (l := u3) (by omega))) rfl rfl rfl ?_
             rintro _ _ rfl
             refine ⟨(fun h => by cases h), ?_⟩
             refine WJ_tp 16 rfl (Rd_index (j3 - 1) rfl rfl ud99 sz25 (hj := by omega)) rfl (hp _ _) ?_
             refine WJ_all (rs := [17]) (by kernel_rfl) rfl ?_
             refine WI_one ?_
             refine WI_ac0 rfl (Ac_store_arr (u3.getD (j3) 0#32) rfl rfl sz25 (i := j3 - 1) (j := 0) (hl := getA (by rw [List.length_set]; omega))) rfl rfl rfl ?_
             rintro _ _ rfl
             refine ⟨(fun h => by cases h), ?_⟩
             refine WJ_done (by kernel_rfl) ?_
             refine Ps_next hK63 ?_
             refine WC_region ?_
             rw [show (u3.set (j3) (u3.getD (j3 - 1) 0#32)).set (j3 - 1) (u3.getD (j3) 0#32) = swA u3 (j3) (j3 - 1) from rfl]
             refine WL_r (Rd_move rfl) rfl ?_
             refine WL_r (Rd_addN (j := 1) rfl rfl) rfl ?_
             refine WL_r (Rd_assign rfl) rfl ?_
             refine WL_nil ?_
             refine Ps_wkA (hK60 ⟨j3 + 1, swA u3 j3 (j3 - 1)⟩ (⟨by (try dsimp only); omega, .step hs3 (by omega) (by omega) (by omega) (by omega), ordS_out ho3 (SwR.step (b := b) .refl (by omega) (by omega) (by omega) (by omega)) (by omega), by (try dsimp only); rw [swA_len]; exact hu3l⟩) (by (try dsimp only); omega))
           ·try simp only [dz, ne_eq] at hc8
            refine WC_exit ?_
            refine Ps_wkA (hK58 (u3) (⟨hs3, ho3, hu3l⟩))
         ·try simp only [dz, ne_eq] at hc7
          refine WC_skip ?_
          refine Ps_wkA (hK58 (v) (⟨hsv, fun p q h0 h1 h2 => hov p q h0 h1 (by omega), hvl⟩))
        ·rintro u ⟨hsu, hou, hul⟩
         simp only [List.cons_append, List.nil_append]
         refine Ps_next hK8 ?_
         refine WC_region ?_
         refine WL_r (Rd_move rfl) rfl ?_
         refine WL_r (Rd_addN (j := 1) rfl rfl) rfl ?_
         refine WL_r (Rd_assign rfl) rfl ?_
         refine WL_nil ?_
         refine Ps_wkA (hK5 ⟨i1, q + 1, u⟩ (⟨by (try dsimp only); omega, hsu, hou, hul⟩) (by (try dsimp only); omega))
  ·try simp only [dz, ne_eq] at hc0
   refine WC_exit ?_
   refine Ps_next hK3 ?_
   refine WC_sr fun K66 hK66 => ?_
   refine WL_r (Rd_assign rfl) rfl ?_
   refine WL_end hK66 ?_
   refine WC_ret ?_
   exact hret.go ⟨(false, w), hsw, fun h => by cases h⟩ (Rs1 rfl rfl)

theorem xs_ct {s : Nat} {x : BitVec 64}  : Ct Try.prog 98 [.pointer (some ⟨s, 0, none⟩)] [cl s 147 [.int .u64 ((x.toNat : Nat) : Int)]] (fun g : BitVec 64 => .int .u64 ((g.toNat : Nat) : Int)) (fun g => [cl s 147 [.int .u64 ((g.toNat : Nat) : Int)]]) := by
 refine Ct_body (n := 33) Try.func98 rfl rfl rfl fun F w0 Q hret hnorm hp => ?_
 change WC _ _ _ _ _ _ _ (_ :: F)
 refine WC_sr fun K1 hK1 => ?_
 refine WL_r (Rd_assign rfl) rfl ?_
 refine WL_end hK1 ?_
 refine WC_seq fun K2 hK2 => ?_
 refine WC_drawA mix (fun i => ([2, 2, 2, 2, 2, 2, 2, 2, 2, 0] : List Nat).getD i 0) ?_
 refine WJ_tp 0 rfl (Rd_move rfl) rfl (hp _ _) ?_
 refine WJ_tp 1 rfl (Rd_nilCheck rfl) rfl (hp _ _) ?_
 refine WJ_tk 2 (Rd_load rfl tk147) hp ?_ rfl (by kernel_rfl) rfl rfl rfl
 refine WJ_tp 3 rfl (Rd_move rfl) rfl (hp _ _) ?_
 refine WJ_tp 4 rfl (Rd_nilCheck rfl) rfl (hp _ _) ?_
 refine WJ_tk 5 (Rd_load rfl tk147) hp ?_ rfl (by kernel_rfl) rfl rfl rfl
 refine WJ_tp 6 rfl (Rd_shlU (j := 13) rfl rfl) rfl (hp _ _) ?_
 refine WJ_tp 7 rfl (Rd_xorU rfl rfl) rfl (hp _ _) ?_
 refine WJ_tp 8 rfl (Rd_nilCheck rfl) rfl (hp _ _) ?_
 refine WJ_all (rs := [9]) (by kernel_rfl) rfl ?_
 refine WI_one ?_
 refine WI_ac0 rfl (Ac_store1 rfl rfl sz147) rfl rfl rfl ?_
 rintro _ _ rfl
 refine ⟨(fun h => by cases h), ?_⟩
 refine WJ_done (by kernel_rfl) ?_
 refine Ps_next hK2 ?_
 refine WC_seq fun K3 hK3 => ?_
 refine WC_drawA mix (fun i => ([2, 2, 2, 2, 2, 2, 2, 2, 2, 0] : List Nat).getD i 0) ?_
 refine WJ_tp 0 rfl (Rd_move rfl) rfl (hp _ _) ?_
 refine WJ_tp 1 rfl (Rd_nilCheck rfl) rfl (hp _ _) ?_
 refine WJ_tk 2 (Rd_load rfl tk147) hp ?_ rfl (by kernel_rfl) rfl rfl rfl
 refine WJ_tp 3 rfl (Rd_move rfl) rfl (hp _ _) ?_
 refine WJ_tp 4 rfl (Rd_nilCheck rfl) rfl (hp _ _) ?_
 refine WJ_tk 5 (Rd_load rfl tk147) hp ?_ rfl (by kernel_rfl) rfl rfl rfl
 refine WJ_tp 6 rfl (Rd_shrU (j := 7) rfl rfl) rfl (hp _ _) ?_
 refine WJ_tp 7 rfl (Rd_xorU rfl rfl) rfl (hp _ _) ?_
 refine WJ_tp 8 rfl (Rd_nilCheck rfl) rfl (hp _ _) ?_
 refine WJ_all (rs := [9]) (by kernel_rfl) rfl ?_
 refine WI_one ?_
 refine WI_ac0 rfl (Ac_store1 rfl rfl sz147) rfl rfl rfl ?_
 rintro _ _ rfl
 refine ⟨(fun h => by cases h), ?_⟩
 refine WJ_done (by kernel_rfl) ?_
 refine Ps_next hK3 ?_
 refine WC_seq fun K4 hK4 => ?_
 refine WC_drawA mix (fun i => ([2, 2, 2, 2, 2, 2, 2, 2, 2, 0] : List Nat).getD i 0) ?_
 refine WJ_tp 0 rfl (Rd_move rfl) rfl (hp _ _) ?_
 refine WJ_tp 1 rfl (Rd_nilCheck rfl) rfl (hp _ _) ?_
 refine WJ_tk 2 (Rd_load rfl tk147) hp ?_ rfl (by kernel_rfl) rfl rfl rfl
 refine WJ_tp 3 rfl (Rd_move rfl) rfl (hp _ _) ?_
 refine WJ_tp 4 rfl (Rd_nilCheck rfl) rfl (hp _ _) ?_
 refine WJ_tk 5 (Rd_load rfl tk147) hp ?_ rfl (by kernel_rfl) rfl rfl rfl
 refine WJ_tp 6 rfl (Rd_shlU (j := 17) rfl rfl) rfl (hp _ _) ?_
 refine WJ_tp 7 rfl (Rd_xorU rfl rfl) rfl (hp _ _) ?_
 refine WJ_tp 8 rfl (Rd_nilCheck rfl) rfl (hp _ _) ?_
 refine WJ_all (rs := [9]) (by kernel_rfl) rfl ?_
 refine WI_one ?_
 refine WI_ac0 rfl (Ac_store1 rfl rfl sz147) rfl rfl rfl ?_
 rintro _ _ rfl
 refine ⟨(fun h => by cases h), ?_⟩
 refine WJ_done (by kernel_rfl) ?_
 refine Ps_next hK4 ?_
 refine WC_sr fun K5 hK5 => ?_
 refine WL_r (Rd_move rfl) rfl ?_
 refine WL_r (Rd_nilCheck rfl) rfl ?_
 refine WL_r (Rd_load rfl tk147) rfl ?_
 refine WL_r (Rd_assign rfl) rfl ?_
 refine WL_end hK5 ?_
 refine WC_ret ?_
 exact hret.go (((x ^^^ x <<< 13) ^^^ (x ^^^ x <<< 13) >>> 7) ^^^ ((x ^^^ x <<< 13) ^^^ (x ^^^ x <<< 13) >>> 7) <<< 17) (Rs1 rfl rfl)

theorem pow_ct {n : Nat} (h1 : 1 ≤ n) (h2 : n ≤ 1000) : Ct Try.prog 97 [.int .i64 ((n : Nat) : Int)] [] (fun g : {q : BitVec 64 // n ≤ q.toNat ∧ q.toNat ≤ 2 * n} => .int .u64 ((g.1.toNat : Nat) : Int)) (fun g => []) := by
 refine Ct_body (n := 7) Try.func97 rfl rfl rfl fun F w0 Q hret hnorm hp => ?_
 change WC _ _ _ _ _ _ _ (F)
 refine WC_sr fun K1 hK1 => ?_
 refine WL_r (Rd_assign rfl) rfl ?_
 refine WL_end hK1 ?_
 refine WC_sr fun K2 hK2 => ?_
 refine WL_r (Rd_move rfl) rfl ?_
 refine WL_r (Rd_conv rfl ikd3_122 (r := ((n : Nat) : Int)) (wrap_u64n (by omega))) rfl ?_
 refine WL_ac (Ac_call cf63 rfl (hs := lenB_ct (n := n) (by omega))) rfl rfl rfl ?_
 rintro _ _ ⟨⟨⟩, rfl, hA⟩
 simp only [List.cons_append, List.nil_append] at hA
 replace hA := hA.symm
 subst hA
 refine WL_r (Rd_shlU (a := 1#64) rfl rfl) rfl ?_
 refine WL_r (Rd_assign rfl) rfl ?_
 refine WL_end hK2 ?_
 refine WC_ret ?_
 exact hret.goE ⟨1#64 <<< Go.Lib.bitLen (n : Int).toNat, pow_ok h1 h2⟩ (Rs1 rfl rfl) rfl

theorem brk_ct {ga cap n a b : Nat} {l : List B32} (hl : l.length = n) (hn : n ≤ 1000) (hab : a + 13 ≤ b) (hb : b ≤ n) : Ct Try.prog 80 [sl (some ga) n cap, .int .i64 ((a : Nat) : Int), .int .i64 ((b : Nat) : Int)] [arr (some ga) cap 1 25 (eU .u32 (w := 32)) l] (fun g : {m : List B32 // SwR a b l m} => .tuple #[]) (fun g => [arr (some ga) cap 1 25 (eU .u32 (w := 32)) g.1]) := by
 refine Ct_body (n := 65) Try.func80 rfl rfl rfl fun F w0 Q hret hnorm hp => ?_
 change WC _ _ _ _ _ _ _ (_ :: F)
 refine WC_sr fun K1 hK1 => ?_
 refine WL_r (Rd_move rfl) rfl ?_
 refine WL_r (Rd_move rfl) rfl ?_
 refine WL_r (Rd_subN rfl rfl) rfl ?_
 refine WL_r (Rd_assign rfl) rfl ?_
 refine WL_end hK1 ?_
 refine WC_sr fun K2 hK2 => ?_
 refine WL_r (Rd_move rfl) rfl ?_
 refine WL_r (Rd_geqN (j := 8) rfl rfl) rfl ?_
 refine WL_end hK2 ?_
 refine WC_cond rfl (fun hc0 => ?_) (fun hc0 => ?_)
 ·try simp only [dz, ne_eq] at hc0
  refine WC_sr fun K3 hK3 => ?_
  refine WL_r (Rd_move rfl) rfl ?_
  refine WL_r (Rd_convNU rfl ikd3_147 (h' := uk64)) rfl ?_
  refine WL_ac (Ac_alloc zr147) rfl rfl rfl ?_
  rintro _ _ ⟨b7, rfl, rfl⟩
  refine WL_ac0 (Ac_store1 rfl rfl sz147) rfl rfl ?_
  rintro _ _ rfl
  refine WL_end hK3 ?_
  refine WC_sr fun K4 hK4 => ?_
  refine WL_r (Rd_move rfl) rfl ?_
  refine WL_ac (Ac_call cf97 rfl (hs := pow_ct (n := b - a) (by omega) (by omega))) rfl rfl rfl ?_
  rintro _ _ ⟨q, rfl, hA⟩
  simp only [List.cons_append, List.nil_append] at hA
  replace hA := hA.symm
  subst hA
  obtain ⟨hq1, hq2⟩ := q.2
  refine WL_r (Rd_assign rfl) rfl ?_
  refine WL_end hK4 ?_
  refine WC_sr fun K5 hK5 => ?_
  refine WL_r (Rd_move rfl) rfl ?_
  refine WL_r (Rd_move rfl) rfl ?_
  refine WL_r (Rd_quoN (j := 4) rfl rfl) rfl ?_
  refine WL_r (Rd_mulN (j := 2) rfl rfl) rfl ?_
  refine WL_r (Rd_addN rfl rfl) rfl ?_
  refine WL_r (Rd_subN (j := 1) rfl rfl) rfl ?_
  refine WL_r (Rd_assign rfl) rfl ?_
  refine WL_end hK5 ?_
  refine WC_block ?_
  refine WC_loopK (σ := Nat × (BitVec 64) × (List B32)) (fun ⟨i, x, w⟩ => [(9, .int .i64 ((i : Nat) : Int))]) (fun ⟨i, x, w⟩ => [cl b7 147 [.int .u64 ((x.toNat : Nat) : Int)], arr (some ga) cap 1 25 (eU .u32 (w := 32)) w]) (fun ⟨i, x, w⟩ => (a ≤ i ∧ i ≤ a + (b - a) / 4 * 2 + 2) ∧ SwR a b l w ∧ w.length = n) (fun ⟨i, x, w⟩ => a + (b - a) / 4 * 2 + 2 - i) ⟨a + (b - a) / 4 * 2 - 1, BitVec.ofNat 64 (b - a), l⟩ [0, 1, 6, 7, 8] kpA (by (try dsimp only); repeat (first | with_reducible exact Gv.nil | (with_reducible apply Gv.cons; · (repeat (first | with_reducible exact Ext.here | with_reducible apply Ext.there))))) ?_ ?_ Sub.refl ?_
  ·exact ⟨by omega, .refl, hl⟩
  ·(try dsimp only); exact (Wk.cons lkA Wk.nil)
  ·rintro ⟨i, x, w⟩ ⟨hi, hsw, hwl⟩ K6 hK6
   simp only [List.cons_append, List.nil_append]
   refine WC_seq fun K7 hK7 => ?_
   refine WC_sr fun K8 hK8 => ?_
   refine WL_r (Rd_move rfl) rfl ?_
   refine WL_r (Rd_move rfl) rfl ?_
   refine WL_r (Rd_move rfl) rfl ?_
   refine WL_r (Rd_quoN (j := 4) rfl rfl) rfl ?_
   refine WL_r (Rd_mulN (j := 2) rfl rfl) rfl ?_
   refine WL_r (Rd_addN rfl rfl) rfl ?_
   refine WL_r (Rd_addN (j := 1) rfl rfl) rfl ?_
   refine WL_r (Rd_leqN rfl rfl) rfl ?_
   refine WL_end hK8 ?_
   refine WC_cond rfl (fun hc1 => ?_) (fun hc1 => ?_)
   ·try simp only [dz, ne_eq] at hc1
    refine WC_skip ?_
    refine Ps_next hK7 ?_
    refine WC_seq fun K9 hK9 => ?_
    refine WC_block ?_
    refine WC_sr fun K10 hK10 => ?_
    refine WL_ac (Ac_call cf98 rfl (hs := xs_ct (s := b7) (x := x))) rfl rfl rfl ?_
    rintro _ _ ⟨y, rfl, hA⟩
    simp only [List.cons_append, List.nil_append] at hA
    replace hA := hA.symm
    subst hA
    refine WL_r (Rd_move rfl) rfl ?_
    refine WL_r (Rd_subU (b := 1#64) rfl rfl) rfl ?_
    refine WL_r (Rd_andU rfl rfl) rfl ?_
    have hx := and_lt (y := y) (by omega) hq1 hq2 (by omega)
    refine WL_r (Rd_convN rfl ikd122_3) rfl ?_
    refine WL_r (Rd_assign rfl) rfl ?_
    refine WL_end hK10 ?_
    refine WC_seq fun K11 hK11 => ?_
    refine WC_sr fun K12 hK12 => ?_
    refine WL_r (Rd_move rfl) rfl ?_
    refine WL_r (Rd_move rfl) rfl ?_
    refine WL_r (Rd_geqN rfl rfl) rfl ?_
    refine WL_end hK12 ?_
    refine WC_meet (B0 := []) (σ := Nat) (fun o => [(10, .int .i64 ((o : Nat) : Int))]) (fun o => []) (fun o => o < b - a) [0, 1, 6, 7, 8, 9, 26, 27, 28, 29, 30, 31, 32, 33, 34, 35, 36, 37, 38, 39, 40, 41, 42, 43, 47, 48, 49, 50, 51, 52, 53, 54, 55, 56, 57, 58, 59, 60, 61, 62, 63, 64] kpA (by (try dsimp only); repeat (first | with_reducible exact Gv.nil | (with_reducible apply Gv.cons; · (repeat (first | with_reducible exact Ext.here | with_reducible apply Ext.there))))) ?_ ?_
    ·intro hK13
     refine WC_cond rfl (fun hc2 => ?_) (fun hc2 => ?_)
     ·try simp only [dz, ne_eq] at hc2
      refine WC_region ?_
      refine WL_r (Rd_move rfl) rfl ?_
      refine WL_r (Rd_move rfl) rfl ?_
      refine WL_r (Rd_subN rfl rfl) rfl ?_
      refine WL_r (Rd_assign rfl) rfl ?_
      refine WL_nil ?_
      refine Ps_wkA (hK13 ((y &&& (q.1 - 1#64)).toNat - (b - a)) (by (try dsimp only); omega))
     ·try simp only [dz, ne_eq] at hc2
      refine WC_skip ?_
      refine Ps_wkA (hK13 ((y &&& (q.1 - 1#64)).toNat) (by (try dsimp only); omega))
    ·rintro o ho
     simp only [List.cons_append, List.nil_append]
     refine Ps_next hK11 ?_
     refine WC_drawA mix (fun i => ([2, 2, 2, 2, 2, 2, 2, 2, 2, 2, 2, 2, 2, 2, 2, 2, 2, 0, 2, 0] : List Nat).getD i 0) ?_
     refine WJ_tp 0 rfl (Rd_move rfl) rfl (hp _ _) ?_
     refine WJ_tp 1 rfl (Rd_move rfl) rfl (hp _ _) ?_
     refine WJ_tp 2 rfl (Rd_move rfl) rfl (hp _ _) ?_
     refine WJ_tp 3 rfl (Rd_move rfl) rfl (hp _ _) ?_
     refine WJ_tp 4 rfl (Rd_move rfl) rfl (hp _ _) ?_
     refine WJ_tp 5 rfl (Rd_addN rfl rfl) rfl (hp _ _) ?_
     refine WJ_tp 6 rfl (Rd_move rfl) rfl (hp _ _) ?_
     refine WJ_tp 7 rfl (Rd_move rfl) rfl (hp _ _) ?_
     refine WJ_tp 8 rfl (Rd_move rfl) rfl (hp _ _) ?_
     refine WJ_tp 9 rfl (Rd_addN rfl rfl) rfl (hp _ _) ?_
     refine WJ_tp 10 rfl (Rd_index (a + o) rfl rfl ud99 sz25 (hj := by omega)) rfl (hp _ _) ?_
     refine WJ_tk 11 (Rd_load_arr (i := a + o) (j := 0) rfl tk25 (hl := getA (l := w) (by omega))) hp ?_ rfl (by kernel_rfl) rfl rfl rfl
     refine WJ_tp 12 rfl (Rd_move rfl) rfl (hp _ _) ?_
     refine WJ_tp 13 rfl (Rd_move rfl) rfl (hp _ _) ?_
     refine WJ_tp 14 rfl (Rd_index (i) rfl rfl ud99 sz25 (hj := by omega)) rfl (hp _ _) ?_
     refine WJ_tk 15 (Rd_load_arr (i := i) (j := 0) rfl tk25 (hl := getA (l := w) (by omega))) hp ?_ rfl (by kernel_rfl) rfl rfl rfl
     refine WJ_tp 16 rfl (Rd_index (i) rfl rfl ud99 sz25 (hj := by omega)) rfl (hp _ _) ?_
     refine WJ_all (rs := [17]) (by kernel_rfl) rfl ?_
     refine WI_one ?_
     refine WI_ac0 rfl (Ac_store_arr (w.getD (a + o) 0#32) rfl rfl sz25 (i := i) (j := 0) (hl := getA (l := w) (by omega))) rfl rfl rfl ?_
     rintro _ _ rfl
     refine ⟨(fun h => by cases h), ?_⟩
     refine WJ_tp 18 rfl (Rd_index (a + o) rfl rfl ud99 sz25 (hj := by omega)) rfl (hp _ _) ?_
     refine WJ_all (rs := [19]) (by kernel_rfl) rfl ?_
     refine WI_one ?_
     refine WI_ac0 rfl (Ac_store_arr (w.getD (i) 0#32) rfl rfl sz25 (i := a + o) (j := 0) (hl := getA (by rw [List.length_set]; omega))) rfl rfl rfl ?_
     rintro _ _ rfl
     refine ⟨(fun h => by cases h), ?_⟩
     refine WJ_done (by kernel_rfl) ?_
     refine Ps_next hK9 ?_
     refine WC_region ?_
     rw [show (w.set (i) (w.getD (a + o) 0#32)).set (a + o) (w.getD (i) 0#32) = swA w (i) (a + o) from rfl]
     refine WL_r (Rd_move rfl) rfl ?_
     refine WL_r (Rd_addN (j := 1) rfl rfl) rfl ?_
     refine WL_r (Rd_assign rfl) rfl ?_
     refine WL_nil ?_
     refine Ps_wkA (hK6 ⟨i + 1, y, swA w i (a + o)⟩ (⟨by (try dsimp only); omega, .step hsw (by omega) (by omega) (by omega) (by omega), by (try dsimp only); rw [swA_len]; exact hwl⟩) (by (try dsimp only); omega))
   ·try simp only [dz, ne_eq] at hc1
    refine WC_exit ?_
    exact hnorm.go ⟨w, hsw⟩ (Rs0 rfl)
 ·try simp only [dz, ne_eq] at hc0
  omega
end Go.Proofs.Ytoakfknnaiapiaa
