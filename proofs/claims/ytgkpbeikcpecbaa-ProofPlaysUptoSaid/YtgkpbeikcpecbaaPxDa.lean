/-
  Contracts of functions that the claim reaches, or the logic and the plain laws that they rest on, or the row over them. (Conditions: none beyond the statement.)
-/
import Derived.Test.YtgkpbeikcpecbaaPxZ
set_option linter.all false
namespace Go.Proofs.Ytgkpbeikcpecbaa
open Go.RowKit Go.SL Go.ShM
set_option maxHeartbeats 1000000
set_option maxRecDepth 20000
set_option linter.all false
theorem el4 : el Try.prog 4 = some (1, 1) := by kernel_rfl
theorem fo136_2 : fo Try.prog 136 2 = some (2, 46) := by kernel_rfl
theorem fo136_3 : fo Try.prog 136 3 = some (3, 76) := by kernel_rfl
theorem pls136 : pls Try.prog 136 = some ([.int .i64 0, .int .i64 0, .slice none 0 0, .slice none 0 0], [(0, 1), (1, 1), (2, 1), (3, 1)]) := by kernel_rfl
theorem sz4 : sz Try.prog 4 = some 1 := by kernel_rfl
theorem tk46 : tk Try.prog 46 = some none := by kernel_rfl
theorem ud46 : Try.prog.underlying 46 = some (.slice 4) := by kernel_rfl
theorem dNew_ct {n : Nat} {root : Dg} (h1 : 1 ≤ n) (h2 : n ≤ 512) : Ct Try.prog 78 [.int .i64 ((n : Nat) : Int), aU .u8 root.1] [] (fun g : Nat × Nat × Nat => .tuple #[.pointer (some ⟨g.1, 0, none⟩), .int .i64 0]) (fun g => [cl g.1 136 [.int .i64 ((n : Nat) : Int), .int .i64 (((wdM n) : Nat) : Int), sl (some g.2.1) (2 * (wdM n)) (2 * (wdM n)), sl (some g.2.2) (2 * (wdM n)) (2 * (wdM n))], arr (some g.2.1) (2 * (wdM n)) 1 4 eBool (isL (newK n root) (wdM n)), arr (some g.2.2) (2 * (wdM n)) 32 42 fD (dgL (newK n root) (wdM n))]) := by
 refine Ct_body (n := 120) Try.func78 rfl rfl rfl fun F w0 Q hret hnorm hp => ?_
 change WC _ _ _ _ _ _ _ (F)
 have hwo := wd_ok h1 h2
 have hrl := Dg_len root
 refine WC_sr fun K1 hK1 => ?_
 refine WL_ac (Ac_boxW (k := .u8) rfl) rfl rfl rfl ?_
 rintro _ _ ⟨b3, rfl, rfl⟩
 refine WL_r (Rd_assign rfl) rfl ?_
 refine WL_r (Rd_assign rfl) rfl ?_
 refine WL_end hK1 ?_
 refine WC_seq fun K2 hK2 => ?_
 refine WC_sr fun K3 hK3 => ?_
 refine WL_r (Rd_move rfl) rfl ?_
 refine WL_r (Rd_isF (Rd_lssN (j := 1) rfl rfl)) rfl ?_
 refine WL_r (Rd_move rfl) rfl ?_
 refine WL_r (Rd_move rfl) rfl ?_
 refine WL_r (Rd_isF (Rd_gtrN (j := 512) rfl rfl)) rfl ?_
 refine WL_r (Rd_pickF rfl rfl) rfl ?_
 refine WL_end hK3 ?_
 refine WC_condF rfl ?_
 refine WC_skip ?_
 refine Ps_next hK2 ?_
 refine WC_sr fun K4 hK4 => ?_
 refine WL_r (Rd_move rfl) rfl ?_
 refine WL_ac (Ac_call cf135 rfl (hs := widthR_ct (n := ((n : Nat) : Int)))) rfl rfl rfl ?_
 rintro _ _ ⟨⟨⟩, rfl, hA⟩
 simp only [List.cons_append, List.nil_append] at hA
 replace hA := hA.symm
 subst hA
 rw [Int.toNat_natCast]
 refine WL_r (Rd_assign rfl) rfl ?_
 refine WL_end hK4 ?_
 refine WC_seq fun K5 hK5 => ?_
 refine WC_drawA mix (fun i => ([2, 2, 2, 2, 1, 2, 2, 1, 2, 1, 2] : List Nat).getD i 0) ?_
 refine WJ_tp 0 rfl (Rd_move rfl) rfl (hp _ _) ?_
 refine WJ_tp 1 rfl (Rd_move rfl) rfl (hp _ _) ?_
 refine WJ_tp 2 rfl (Rd_move rfl) rfl (hp _ _) ?_
 refine WJ_tp 3 rfl (Rd_mulN (i := 2) rfl rfl) rfl (hp _ _) ?_
 refine WJ_tp 5 rfl (Rd_move rfl) rfl (hp _ _) ?_
 refine WJ_tp 6 rfl (Rd_mulN (i := 2) rfl rfl) rfl (hp _ _) ?_
 refine WJ_all (rs := [4, 7]) (by kernel_rfl) rfl ?_
 refine WI_cons ?_ (WI_cons ?_ (by intro _ h; cases h))
 ·skip
  refine WI_ac rfl (Ac_make (f := eBool) enc_bool false rfl rfl ud46 el4 zr4) rfl rfl rfl rfl ?_
  rintro _ _ ⟨b22, rfl, rfl⟩
  refine ⟨(fun _ => subA), ?_⟩
  refine WJ_all (rs := [7]) (by kernel_rfl) rfl ?_
  refine WI_one ?_
  refine WI_ac rfl (Ac_make (f := fD) encD zD rfl rfl ud76 el42 zr42) rfl rfl rfl rfl ?_
  rintro _ _ ⟨b25, rfl, rfl⟩
  refine ⟨(fun _ => subA), ?_⟩
  refine WJ_tp 8 rfl (Rd_build pls136 rfl) rfl (hp _ _) ?_
  refine WJ_all (rs := [9]) (by kernel_rfl) rfl ?_
  refine WI_one ?_
  refine WI_ac rfl (Ac_box (xs := [.int .i64 ((n : Nat) : Int), .int .i64 (((wdM n) : Nat) : Int), sl (some b22) (2 * (wdM n)) (2 * (wdM n)), sl (some b25) (2 * (wdM n)) (2 * (wdM n))]) rfl rfl) rfl rfl rfl rfl ?_
  rintro _ _ ⟨b27, rfl, rfl⟩
  refine ⟨(fun _ => subA), ?_⟩
  refine WJ_tp 10 rfl (Rd_assign rfl) rfl (hp _ _) ?_
  refine WJ_done (by kernel_rfl) ?_
  refine Ps_next hK5 ?_
  refine WC_seq fun K6 hK6 => ?_
  refine WC_sr fun K7 hK7 => ?_
  refine WL_r (Rd_move rfl) rfl ?_
  refine WL_r (Rd_assign rfl) rfl ?_
  refine WL_end hK7 ?_
  refine WC_block ?_
  rw [← isL_0, ← dgL_0, show k0 = padK n (wdM n) 0 from rfl]
  refine WC_loopK (σ := Nat) (fun j => [(8, .int .i64 (((n + j) : Nat) : Int))]) (fun j => [arr (some b22) (2 * (wdM n)) 1 4 eBool (isL (padK n (wdM n) j) (wdM n)), arr (some b25) (2 * (wdM n)) 32 42 fD (dgL (padK n (wdM n) j) (wdM n))]) (fun j => j ≤ (wdM n) - n) (fun j => (wdM n) - n - j) (0) [3, 4, 5, 6, 7, 9, 53, 54, 55, 56, 57, 58, 59, 60, 61, 62, 63, 64, 65, 66, 67, 68, 69, 70, 71, 72, 73, 74, 75, 76, 77, 78, 79, 80, 81, 82, 83, 84, 85, 86, 87, 88, 89, 90, 91, 92, 93, 94, 95, 96, 97, 98, 99, 100, 101, 102, 103, 104, 105, 106, 107, 108, 109, 110, 111, 112, 113, 114, 115, 116, 117, 118, 119] kpA (by (try dsimp only); repeat (first | with_reducible exact Gv.nil | (with_reducible apply Gv.cons; · (repeat (first | with_reducible exact Ext.here | with_reducible apply Ext.there))))) ?_ ?_ Sub.refl ?_
  ·exact Nat.zero_le _
  ·(try dsimp only); exact (Wk.cons lkA Wk.nil)
  ·rintro j hj K8 hK8
   simp only [List.cons_append, List.nil_append]
   refine WC_seq fun K9 hK9 => ?_
   refine WC_sr fun K10 hK10 => ?_
   refine WL_r (Rd_move rfl) rfl ?_
   refine WL_r (Rd_move rfl) rfl ?_
   refine WL_r (Rd_lssN rfl rfl) rfl ?_
   refine WL_end hK10 ?_
   refine WC_cond rfl (fun hc1 => ?_) (fun hc1 => ?_)
   ·try simp only [dz, ne_eq] at hc1
    refine WC_skip ?_
    refine Ps_next hK9 ?_
    refine WC_seq fun K11 hK11 => ?_
    refine WC_block ?_
    refine WC_sr fun K12 hK12 => ?_
    refine WL_r (Rd_move rfl) rfl ?_
    refine WL_r (Rd_nilCheck rfl) rfl ?_
    refine WL_r (Rd_fieldAddr rfl fo136_2) rfl ?_
    refine WL_r (Rd_load rfl tk46) rfl ?_
    refine WL_r (Rd_move rfl) rfl ?_
    refine WL_r (Rd_move rfl) rfl ?_
    refine WL_r (Rd_addN rfl rfl) rfl ?_
    refine WL_r (Rd_index ((wdM n) + (n + j)) rfl rfl ud46 sz4 (hi := by omega)) rfl ?_
    refine WL_ac0 (Ac_store_arr true rfl rfl sz4 (j := 0) (i := (wdM n) + (n + j)) (hl := isL_at (K := (padK n (wdM n) j)) (w := (wdM n)) (by omega))) rfl rfl ?_
    rintro _ _ rfl
    refine WL_end hK12 ?_
    refine WC_drawA mix (fun i => ([2, 2, 2, 2, 2, 2, 2, 2, 2, 1, 2, 0] : List Nat).getD i 0) ?_
    refine WJ_tp 0 rfl (Rd_move rfl) rfl (hp _ _) ?_
    refine WJ_tp 1 rfl (Rd_nilCheck rfl) rfl (hp _ _) ?_
    refine WJ_tp 2 rfl (Rd_fieldAddr rfl fo136_3) rfl (hp _ _) ?_
    refine WJ_tk 3 (Rd_load rfl tk76) hp ?_ rfl (by kernel_rfl) rfl rfl rfl
    refine WJ_tp 4 rfl (Rd_move rfl) rfl (hp _ _) ?_
    refine WJ_tp 5 rfl (Rd_move rfl) rfl (hp _ _) ?_
    refine WJ_tp 6 rfl (Rd_addN rfl rfl) rfl (hp _ _) ?_
    refine WJ_tp 7 rfl (Rd_move rfl) rfl (hp _ _) ?_
    refine WJ_tp 8 rfl (Rd_convNU rfl ikd3_24 (h' := uk32)) rfl (hp _ _) ?_
    refine WJ_all (rs := [9]) (by kernel_rfl) rfl ?_
    refine WI_one ?_
    refine WI_ac rfl (Ac_call cf89 rfl (hs := padTR_ct (x := BitVec.ofNat 32 (n + j)))) rfl rfl rfl rfl ?_
    rintro _ _ ⟨⟨⟩, rfl, hA⟩
    simp only [List.cons_append, List.nil_append] at hA
    replace hA := hA.symm
    subst hA
    refine ⟨(fun _ => subA), ?_⟩
    refine WJ_tp 10 rfl (Rd_index ((wdM n) + (n + j)) rfl rfl ud76 sz42 (hi := by omega)) rfl (hp _ _) ?_
    refine WJ_all (rs := [11]) (by kernel_rfl) rfl ?_
    refine WI_one ?_
    refine WI_ac0 rfl (Ac_storeD (padD (n + j)) rfl rfl sz42 (i := (wdM n) + (n + j)) (hi := by rw [dgL_len]; omega)) rfl rfl rfl ?_
    rintro _ _ rfl
    refine ⟨(fun h => by cases h), ?_⟩
    rw [isL_set (K := (padK n (wdM n) j)) (w := (wdM n)) (i := ((wdM n) + (n + j))) (d := (padD (n + j))) (by omega), dgL_set (K := (padK n (wdM n) j)) (w := (wdM n)) (i := ((wdM n) + (n + j))) (d := (padD (n + j))) (by omega)]
    rw [show kset (padK n (wdM n) j) ((((wdM n) + (n + j) : Nat)) : Int) (padD (n + j)) = (padK n (wdM n) (j + 1)) from rfl]
    refine WJ_done (by kernel_rfl) ?_
    refine Ps_next hK11 ?_
    refine WC_region ?_
    refine WL_r (Rd_move rfl) rfl ?_
    refine WL_r (Rd_addN (j := 1) rfl rfl) rfl ?_
    refine WL_r (Rd_assign rfl) rfl ?_
    refine WL_nil ?_
    refine Ps_wkB (hK8 (j + 1) (by omega) (by omega))
   ·try simp only [dz, ne_eq] at hc1
    obtain rfl : j = (wdM n) - n := by omega
    refine WC_exit ?_
    refine Ps_next hK6 ?_
    refine WC_sr fun K13 hK13 => ?_
    refine WL_r (Rd_move rfl) rfl ?_
    refine WL_r (Rd_nilCheck rfl) rfl ?_
    refine WL_r (Rd_fieldAddr rfl fo136_2) rfl ?_
    refine WL_r (Rd_load rfl tk46) rfl ?_
    refine WL_r (Rd_index (1) rfl rfl ud46 sz4 (hi := by omega)) rfl ?_
    refine WL_ac0 (Ac_store_arr true rfl rfl sz4 (j := 0) (i := 1) (hl := isL_at (K := (padK n (wdM n) ((wdM n) - n))) (w := (wdM n)) (by omega))) rfl rfl ?_
    rintro _ _ rfl
    refine WL_end hK13 ?_
    refine WC_seq fun K14 hK14 => ?_
    refine WC_drawA mix (fun i => ([2, 2, 2, 2, 2, 2, 0] : List Nat).getD i 0) ?_
    refine WJ_tp 0 rfl (Rd_move rfl) rfl (hp _ _) ?_
    refine WJ_tp 1 rfl (Rd_nilCheck rfl) rfl (hp _ _) ?_
    refine WJ_tp 2 rfl (Rd_fieldAddr rfl fo136_3) rfl (hp _ _) ?_
    refine WJ_tk 3 (Rd_load rfl tk76) hp ?_ rfl (by kernel_rfl) rfl rfl rfl
    refine WJ_tk 4 (Rd_loadW rfl tk42) hp ?_ rfl (by kernel_rfl) rfl rfl rfl
    refine WJ_tp 5 rfl (Rd_index (1) rfl rfl ud76 sz42 (hi := by omega)) rfl (hp _ _) ?_
    refine WJ_all (rs := [6]) (by kernel_rfl) rfl ?_
    refine WI_one ?_
    refine WI_ac0 rfl (Ac_storeD (root) rfl rfl sz42 (i := 1) (hi := by rw [dgL_len]; omega)) rfl rfl rfl ?_
    rintro _ _ rfl
    refine ⟨(fun h => by cases h), ?_⟩
    rw [isL_set (K := (padK n (wdM n) ((wdM n) - n))) (w := (wdM n)) (i := 1) (d := root) (by omega), dgL_set (K := (padK n (wdM n) ((wdM n) - n))) (w := (wdM n)) (i := 1) (d := root) (by omega)]
    rw [show kset (padK n (wdM n) ((wdM n) - n)) (((1 : Nat)) : Int) root = (upK (kset (padK n (wdM n) ((wdM n) - n)) 1 root) (wdM n) 0) from rfl]
    refine WJ_done (by kernel_rfl) ?_
    refine Ps_next hK14 ?_
    refine WC_seq fun K15 hK15 => ?_
    refine WC_sr fun K16 hK16 => ?_
    refine WL_r (Rd_move rfl) rfl ?_
    refine WL_r (Rd_subN (j := 1) rfl rfl) rfl ?_
    refine WL_r (Rd_assign rfl) rfl ?_
    refine WL_end hK16 ?_
    refine WC_block ?_
    refine WC_loopK (σ := Nat) (fun q => [(9, .int .i64 ((((wdM n) - 1 - q) : Nat) : Int))]) (fun q => [arr (some b22) (2 * (wdM n)) 1 4 eBool (isL (upK (kset (padK n (wdM n) ((wdM n) - n)) 1 root) (wdM n) q) (wdM n)), arr (some b25) (2 * (wdM n)) 32 42 fD (dgL (upK (kset (padK n (wdM n) ((wdM n) - n)) 1 root) (wdM n) q) (wdM n))]) (fun q => q ≤ (wdM n) - 2) (fun q => (wdM n) - q) (0) [4, 5, 7, 119] kpA (by (try dsimp only); repeat (first | with_reducible exact Gv.nil | (with_reducible apply Gv.cons; · (repeat (first | with_reducible exact Ext.here | with_reducible apply Ext.there))))) ?_ ?_ Sub.refl ?_
    ·exact Nat.zero_le _
    ·(try dsimp only); exact (Wk.cons lkA Wk.nil)
    ·rintro q hq K17 hK17
     simp only [List.cons_append, List.nil_append]
     have hdl := Dg_len (((upK (kset (padK n (wdM n) ((wdM n) - n)) 1 root) (wdM n) q) (((2 * ((wdM n) - 1 - q) : Nat)) : Int)).getD zD)
     have hdr := Dg_len (((upK (kset (padK n (wdM n) ((wdM n) - n)) 1 root) (wdM n) q) (((2 * ((wdM n) - 1 - q) + 1 : Nat)) : Int)).getD zD)
     refine WC_seq fun K18 hK18 => ?_
     refine WC_sr fun K19 hK19 => ?_
     refine WL_r (Rd_move rfl) rfl ?_
     refine WL_r (Rd_gtrN (j := 1) rfl rfl) rfl ?_
     refine WL_end hK19 ?_
     refine WC_cond rfl (fun hc2 => ?_) (fun hc2 => ?_)
     ·try simp only [dz, ne_eq] at hc2
      refine WC_skip ?_
      refine Ps_next hK18 ?_
      refine WC_seq fun K20 hK20 => ?_
      refine WC_block ?_
      refine WC_sr fun K21 hK21 => ?_
      refine WL_r (Rd_move rfl) rfl ?_
      refine WL_r (Rd_nilCheck rfl) rfl ?_
      refine WL_r (Rd_fieldAddr rfl fo136_2) rfl ?_
      refine WL_r (Rd_load rfl tk46) rfl ?_
      refine WL_r (Rd_move rfl) rfl ?_
      refine WL_r (Rd_mulN (i := 2) rfl rfl) rfl ?_
      refine WL_r (Rd_index (2 * ((wdM n) - 1 - q)) rfl rfl ud46 sz4 (hi := by omega)) rfl ?_
      refine WL_r (Rd_load_arr (f := eBool) (i := (2 * ((wdM n) - 1 - q))) (j := 0) rfl tk4 (hl := isL_at (K := (upK (kset (padK n (wdM n) ((wdM n) - n)) 1 root) (wdM n) q)) (w := (wdM n)) (by omega))) rfl ?_
      refine WL_r (Rd_move rfl) rfl ?_
      refine WL_bool 78 rfl (fun hg22 => ?_) (fun hg22 => ?_)
      ·try simp only [dz, ne_eq] at hg22
       have q0 := hg22
       refine WL_r (Rd_move rfl) rfl ?_
       refine WL_r (Rd_nilCheck rfl) rfl ?_
       refine WL_r (Rd_fieldAddr rfl fo136_2) rfl ?_
       refine WL_r (Rd_load rfl tk46) rfl ?_
       refine WL_r (Rd_move rfl) rfl ?_
       refine WL_r (Rd_mulN (i := 2) rfl rfl) rfl ?_
       refine WL_r (Rd_addN (j := 1) rfl rfl) rfl ?_
       refine WL_r (Rd_index (2 * ((wdM n) - 1 - q) + 1) rfl rfl ud46 sz4 (hi := by omega)) rfl ?_
       refine WL_r (Rd_load_arr (f := eBool) (i := (2 * ((wdM n) - 1 - q) + 1)) (j := 0) rfl tk4 (hl := isL_at (K := (upK (kset (padK n (wdM n) ((wdM n) - n)) 1 root) (wdM n) q)) (w := (wdM n)) (by omega))) rfl ?_
       refine WL_r (Rd_pickT rfl rfl) rfl ?_
       refine WL_end hK21 ?_
       refine WC_cond rfl (fun hc3 => ?_) (fun hc3 => ?_)
       ·try simp only [dz, ne_eq] at hc3
        refine WC_sr fun K23 hK23 => ?_
        refine WL_r (Rd_move rfl) rfl ?_
        refine WL_r (Rd_nilCheck rfl) rfl ?_
        refine WL_r (Rd_fieldAddr rfl fo136_2) rfl ?_
        refine WL_r (Rd_load rfl tk46) rfl ?_
        refine WL_r (Rd_move rfl) rfl ?_
        refine WL_r (Rd_index (((wdM n) - 1 - q)) rfl rfl ud46 sz4 (hi := by omega)) rfl ?_
        refine WL_ac0 (Ac_store_arr true rfl rfl sz4 (j := 0) (i := ((wdM n) - 1 - q)) (hl := isL_at (K := (upK (kset (padK n (wdM n) ((wdM n) - n)) 1 root) (wdM n) q)) (w := (wdM n)) (by omega))) rfl rfl ?_
        rintro _ _ rfl
        refine WL_end hK23 ?_
        refine WC_drawA mix (fun i => ([2, 2, 2, 2, 2, 2, 2, 2, 2, 2, 2, 2, 2, 2, 2, 2, 2, 2, 2, 2, 2, 2, 1, 2, 0] : List Nat).getD i 0) ?_
        refine WJ_tp 0 rfl (Rd_move rfl) rfl (hp _ _) ?_
        refine WJ_tp 1 rfl (Rd_nilCheck rfl) rfl (hp _ _) ?_
        refine WJ_tp 2 rfl (Rd_fieldAddr rfl fo136_3) rfl (hp _ _) ?_
        refine WJ_tk 3 (Rd_load rfl tk76) hp ?_ rfl (by kernel_rfl) rfl rfl rfl
        refine WJ_tp 4 rfl (Rd_move rfl) rfl (hp _ _) ?_
        refine WJ_tp 5 rfl (Rd_move rfl) rfl (hp _ _) ?_
        refine WJ_tp 6 rfl (Rd_nilCheck rfl) rfl (hp _ _) ?_
        refine WJ_tp 7 rfl (Rd_fieldAddr rfl fo136_3) rfl (hp _ _) ?_
        refine WJ_tk 8 (Rd_load rfl tk76) hp ?_ rfl (by kernel_rfl) rfl rfl rfl
        refine WJ_tp 9 rfl (Rd_move rfl) rfl (hp _ _) ?_
        refine WJ_tp 10 rfl (Rd_mulN (i := 2) rfl rfl) rfl (hp _ _) ?_
        refine WJ_tp 11 rfl (Rd_index (2 * ((wdM n) - 1 - q)) rfl rfl ud76 sz42 (hi := by omega)) rfl (hp _ _) ?_
        refine WJ_tk 12 (Rd_aU (k := .u8) (l := (((upK (kset (padK n (wdM n) ((wdM n) - n)) 1 root) (wdM n) q) ((((2 * ((wdM n) - 1 - q)) : Nat)) : Int)).getD zD).1) (Rd_loadg_arr (f := fD) (i := (2 * ((wdM n) - 1 - q))) rfl tk42 (hl := dgL_at (K := (upK (kset (padK n (wdM n) ((wdM n) - n)) 1 root) (wdM n) q)) (w := (wdM n)) (by omega))) rfl) hp ?_ rfl (by kernel_rfl) rfl rfl rfl
        refine WJ_tp 13 rfl (Rd_move rfl) rfl (hp _ _) ?_
        refine WJ_tp 14 rfl (Rd_nilCheck rfl) rfl (hp _ _) ?_
        refine WJ_tp 15 rfl (Rd_fieldAddr rfl fo136_3) rfl (hp _ _) ?_
        refine WJ_tk 16 (Rd_load rfl tk76) hp ?_ rfl (by kernel_rfl) rfl rfl rfl
        refine WJ_tp 17 rfl (Rd_move rfl) rfl (hp _ _) ?_
        refine WJ_tp 18 rfl (Rd_mulN (i := 2) rfl rfl) rfl (hp _ _) ?_
        refine WJ_tp 19 rfl (Rd_addN (j := 1) rfl rfl) rfl (hp _ _) ?_
        refine WJ_tp 20 rfl (Rd_index (2 * ((wdM n) - 1 - q) + 1) rfl rfl ud76 sz42 (hi := by omega)) rfl (hp _ _) ?_
        refine WJ_tk 21 (Rd_aU (k := .u8) (l := (((upK (kset (padK n (wdM n) ((wdM n) - n)) 1 root) (wdM n) q) ((((2 * ((wdM n) - 1 - q) + 1) : Nat)) : Int)).getD zD).1) (Rd_loadg_arr (f := fD) (i := (2 * ((wdM n) - 1 - q) + 1)) rfl tk42 (hl := dgL_at (K := (upK (kset (padK n (wdM n) ((wdM n) - n)) 1 root) (wdM n) q)) (w := (wdM n)) (by omega))) rfl) hp ?_ rfl (by kernel_rfl) rfl rfl rfl
        refine WJ_all (rs := [22]) (by kernel_rfl) rfl ?_
        refine WI_one ?_
        refine WI_ac rfl (Ac_call cf77 rfl (hs := nodeR_ct (x := (((upK (kset (padK n (wdM n) ((wdM n) - n)) 1 root) (wdM n) q) (((2 * ((wdM n) - 1 - q) : Nat)) : Int)).getD zD).1) (y := (((upK (kset (padK n (wdM n) ((wdM n) - n)) 1 root) (wdM n) q) (((2 * ((wdM n) - 1 - q) + 1 : Nat)) : Int)).getD zD).1) (hx := Dg_len _) (hy := Dg_len _))) rfl rfl rfl rfl ?_
        rintro _ _ ⟨⟨⟩, rfl, hA⟩
        simp only [List.cons_append, List.nil_append] at hA
        replace hA := hA.symm
        subst hA
        refine ⟨(fun _ => subA), ?_⟩
        refine WJ_tp 23 rfl (Rd_index (((wdM n) - 1 - q)) rfl rfl ud76 sz42 (hi := by omega)) rfl (hp _ _) ?_
        refine WJ_all (rs := [24]) (by kernel_rfl) rfl ?_
        refine WI_one ?_
        refine WI_ac0 rfl (Ac_storeD ((nodeD (((upK (kset (padK n (wdM n) ((wdM n) - n)) 1 root) (wdM n) q) (((2 * ((wdM n) - 1 - q) : Nat)) : Int)).getD zD) (((upK (kset (padK n (wdM n) ((wdM n) - n)) 1 root) (wdM n) q) (((2 * ((wdM n) - 1 - q) + 1 : Nat)) : Int)).getD zD))) rfl rfl sz42 (i := ((wdM n) - 1 - q)) (hi := by rw [dgL_len]; omega)) rfl rfl rfl ?_
        rintro _ _ rfl
        refine ⟨(fun h => by cases h), ?_⟩
        rw [isL_set (K := (upK (kset (padK n (wdM n) ((wdM n) - n)) 1 root) (wdM n) q)) (w := (wdM n)) (i := ((wdM n) - 1 - q)) (d := (nodeD (((upK (kset (padK n (wdM n) ((wdM n) - n)) 1 root) (wdM n) q) (((2 * ((wdM n) - 1 - q) : Nat)) : Int)).getD zD) (((upK (kset (padK n (wdM n) ((wdM n) - n)) 1 root) (wdM n) q) (((2 * ((wdM n) - 1 - q) + 1 : Nat)) : Int)).getD zD))) (by omega), dgL_set (K := (upK (kset (padK n (wdM n) ((wdM n) - n)) 1 root) (wdM n) q)) (w := (wdM n)) (i := ((wdM n) - 1 - q)) (d := (nodeD (((upK (kset (padK n (wdM n) ((wdM n) - n)) 1 root) (wdM n) q) (((2 * ((wdM n) - 1 - q) : Nat)) : Int)).getD zD) (((upK (kset (padK n (wdM n) ((wdM n) - n)) 1 root) (wdM n) q) (((2 * ((wdM n) - 1 - q) + 1 : Nat)) : Int)).getD zD))) (by omega)]
        rw [show kset (upK (kset (padK n (wdM n) ((wdM n) - n)) 1 root) (wdM n) q) (((((wdM n) - 1 - q) : Nat)) : Int) (nodeD (((upK (kset (padK n (wdM n) ((wdM n) - n)) 1 root) (wdM n) q) (((2 * ((wdM n) - 1 - q) : Nat)) : Int)).getD zD) (((upK (kset (padK n (wdM n) ((wdM n) - n)) 1 root) (wdM n) q) (((2 * ((wdM n) - 1 - q) + 1 : Nat)) : Int)).getD zD)) = (upK (kset (padK n (wdM n) ((wdM n) - n)) 1 root) (wdM n) (q + 1)) from (stepK_yes (kis q0) (kis hc3)).symm]
        refine WJ_done (by kernel_rfl) ?_
        refine Ps_next hK20 ?_
        refine WC_region ?_
        refine WL_r (Rd_move rfl) rfl ?_
        refine WL_r (Rd_subN (j := 1) rfl rfl) rfl ?_
        rw [show ((wdM n) - 1 - q) - 1 = (wdM n) - 1 - (q + 1) from rfl]
        refine WL_r (Rd_assign rfl) rfl ?_
        refine WL_nil ?_
        refine Ps_wkB (hK17 (q + 1) (by omega) (by omega))
       ·try simp only [dz, ne_eq] at hc3
        first | (have hst : stepK (upK (kset (padK n (wdM n) ((wdM n) - n)) 1 root) (wdM n) q) ((wdM n) - 1 - q) = (upK (kset (padK n (wdM n) ((wdM n) - n)) 1 root) (wdM n) q) := stepK_no (.inl (by simpa using q0))) | (have hst : stepK (upK (kset (padK n (wdM n) ((wdM n) - n)) 1 root) (wdM n) q) ((wdM n) - 1 - q) = (upK (kset (padK n (wdM n) ((wdM n) - n)) 1 root) (wdM n) q) := stepK_no (.inr (by simpa using hc3)))
        rw [show (upK (kset (padK n (wdM n) ((wdM n) - n)) 1 root) (wdM n) q) = (upK (kset (padK n (wdM n) ((wdM n) - n)) 1 root) (wdM n) (q + 1)) from hst.symm]
        refine WC_skip ?_
        refine Ps_next hK20 ?_
        refine WC_region ?_
        refine WL_r (Rd_move rfl) rfl ?_
        refine WL_r (Rd_subN (j := 1) rfl rfl) rfl ?_
        rw [show ((wdM n) - 1 - q) - 1 = (wdM n) - 1 - (q + 1) from rfl]
        refine WL_r (Rd_assign rfl) rfl ?_
        refine WL_nil ?_
        refine Ps_wkB (hK17 (q + 1) (by omega) (by omega))
      ·try simp only [dz, ne_eq] at hg22
       have q0 := hg22
       refine WL_skip rfl rfl rfl ?_
       refine WL_skip rfl rfl rfl ?_
       refine WL_skip rfl rfl rfl ?_
       refine WL_skip rfl rfl rfl ?_
       refine WL_skip rfl rfl rfl ?_
       refine WL_skip rfl rfl rfl ?_
       refine WL_skip rfl rfl rfl ?_
       refine WL_skip rfl rfl rfl ?_
       refine WL_skip rfl rfl rfl ?_
       refine WL_r (Rd_pickF rfl rfl) rfl ?_
       refine WL_end hK21 ?_
       refine WC_condF rfl ?_
       first | (have hst : stepK (upK (kset (padK n (wdM n) ((wdM n) - n)) 1 root) (wdM n) q) ((wdM n) - 1 - q) = (upK (kset (padK n (wdM n) ((wdM n) - n)) 1 root) (wdM n) q) := stepK_no (.inl (by simpa using q0))) | (have hst : stepK (upK (kset (padK n (wdM n) ((wdM n) - n)) 1 root) (wdM n) q) ((wdM n) - 1 - q) = (upK (kset (padK n (wdM n) ((wdM n) - n)) 1 root) (wdM n) q) := stepK_no (.inr (by simpa using hc3)))
       rw [show (upK (kset (padK n (wdM n) ((wdM n) - n)) 1 root) (wdM n) q) = (upK (kset (padK n (wdM n) ((wdM n) - n)) 1 root) (wdM n) (q + 1)) from hst.symm]
       refine WC_skip ?_
       refine Ps_next hK20 ?_
       refine WC_region ?_
       refine WL_r (Rd_move rfl) rfl ?_
       refine WL_r (Rd_subN (j := 1) rfl rfl) rfl ?_
       rw [show ((wdM n) - 1 - q) - 1 = (wdM n) - 1 - (q + 1) from rfl]
       refine WL_r (Rd_assign rfl) rfl ?_
       refine WL_nil ?_
       refine Ps_wkB (hK17 (q + 1) (by omega) (by omega))
     ·try simp only [dz, ne_eq] at hc2
      obtain rfl : q = (wdM n) - 2 := by omega
      rw [show (upK (kset (padK n (wdM n) ((wdM n) - n)) 1 root) (wdM n) ((wdM n) - 2)) = (newK n root) from rfl]
      refine WC_exit ?_
      refine Ps_next hK15 ?_
      refine WC_sr fun K24 hK24 => ?_
      refine WL_r (Rd_move rfl) rfl ?_
      refine WL_r (Rd_assign rfl) rfl ?_
      refine WL_r (Rd_assign rfl) rfl ?_
      refine WL_end hK24 ?_
      refine WC_ret ?_
      exact hret.gf (b27, b22, b25) (Rs2 rfl rfl rfl)
 ·skip
  refine WI_ac rfl (Ac_make (f := fD) encD zD rfl rfl ud76 el42 zr42) rfl rfl rfl rfl ?_
  rintro _ _ ⟨b25, rfl, rfl⟩
  refine ⟨(fun _ => subA), ?_⟩
  refine WJ_all (rs := [4]) (by kernel_rfl) rfl ?_
  refine WI_one ?_
  refine WI_ac rfl (Ac_make (f := eBool) enc_bool false rfl rfl ud46 el4 zr4) rfl rfl rfl rfl ?_
  rintro _ _ ⟨b22, rfl, rfl⟩
  refine ⟨(fun _ => subA), ?_⟩
  refine WJ_tp 8 rfl (Rd_build pls136 rfl) rfl (hp _ _) ?_
  refine WJ_all (rs := [9]) (by kernel_rfl) rfl ?_
  refine WI_one ?_
  refine WI_ac rfl (Ac_box (xs := [.int .i64 ((n : Nat) : Int), .int .i64 (((wdM n) : Nat) : Int), sl (some b22) (2 * (wdM n)) (2 * (wdM n)), sl (some b25) (2 * (wdM n)) (2 * (wdM n))]) rfl rfl) rfl rfl rfl rfl ?_
  rintro _ _ ⟨b27, rfl, rfl⟩
  refine ⟨(fun _ => subA), ?_⟩
  refine WJ_tp 10 rfl (Rd_assign rfl) rfl (hp _ _) ?_
  refine WJ_done (by kernel_rfl) ?_
  refine Ps_next hK5 ?_
  refine WC_seq fun K25 hK25 => ?_
  refine WC_sr fun K26 hK26 => ?_
  refine WL_r (Rd_move rfl) rfl ?_
  refine WL_r (Rd_assign rfl) rfl ?_
  refine WL_end hK26 ?_
  refine WC_block ?_
  rw [← isL_0, ← dgL_0, show k0 = padK n (wdM n) 0 from rfl]
  refine WC_loopK (σ := Nat) (fun j => [(8, .int .i64 (((n + j) : Nat) : Int))]) (fun j => [arr (some b22) (2 * (wdM n)) 1 4 eBool (isL (padK n (wdM n) j) (wdM n)), arr (some b25) (2 * (wdM n)) 32 42 fD (dgL (padK n (wdM n) j) (wdM n))]) (fun j => j ≤ (wdM n) - n) (fun j => (wdM n) - n - j) (0) [3, 4, 5, 6, 7, 9, 53, 54, 55, 56, 57, 58, 59, 60, 61, 62, 63, 64, 65, 66, 67, 68, 69, 70, 71, 72, 73, 74, 75, 76, 77, 78, 79, 80, 81, 82, 83, 84, 85, 86, 87, 88, 89, 90, 91, 92, 93, 94, 95, 96, 97, 98, 99, 100, 101, 102, 103, 104, 105, 106, 107, 108, 109, 110, 111, 112, 113, 114, 115, 116, 117, 118, 119] kpA (by (try dsimp only); repeat (first | with_reducible exact Gv.nil | (with_reducible apply Gv.cons; · (repeat (first | with_reducible exact Ext.here | with_reducible apply Ext.there))))) ?_ ?_ Sub.refl ?_
  ·exact Nat.zero_le _
  ·(try dsimp only); exact (Wk.cons lkA Wk.nil)
  ·rintro j hj K27 hK27
   simp only [List.cons_append, List.nil_append]
   refine WC_seq fun K28 hK28 => ?_
   refine WC_sr fun K29 hK29 => ?_
   refine WL_r (Rd_move rfl) rfl ?_
   refine WL_r (Rd_move rfl) rfl ?_
   refine WL_r (Rd_lssN rfl rfl) rfl ?_
   refine WL_end hK29 ?_
   refine WC_cond rfl (fun hc1 => ?_) (fun hc1 => ?_)
   ·try simp only [dz, ne_eq] at hc1
    refine WC_skip ?_
    refine Ps_next hK28 ?_
    refine WC_seq fun K30 hK30 => ?_
    refine WC_block ?_
    refine WC_sr fun K31 hK31 => ?_
    refine WL_r (Rd_move rfl) rfl ?_
    refine WL_r (Rd_nilCheck rfl) rfl ?_
    refine WL_r (Rd_fieldAddr rfl fo136_2) rfl ?_
    refine WL_r (Rd_load rfl tk46) rfl ?_
    refine WL_r (Rd_move rfl) rfl ?_
    refine WL_r (Rd_move rfl) rfl ?_
    refine WL_r (Rd_addN rfl rfl) rfl ?_
    refine WL_r (Rd_index ((wdM n) + (n + j)) rfl rfl ud46 sz4 (hi := by omega)) rfl ?_
    refine WL_ac0 (Ac_store_arr true rfl rfl sz4 (j := 0) (i := (wdM n) + (n + j)) (hl := isL_at (K := (padK n (wdM n) j)) (w := (wdM n)) (by omega))) rfl rfl ?_
    rintro _ _ rfl
    refine WL_end hK31 ?_
    refine WC_drawA mix (fun i => ([2, 2, 2, 2, 2, 2, 2, 2, 2, 1, 2, 0] : List Nat).getD i 0) ?_
    refine WJ_tp 0 rfl (Rd_move rfl) rfl (hp _ _) ?_
    refine WJ_tp 1 rfl (Rd_nilCheck rfl) rfl (hp _ _) ?_
    refine WJ_tp 2 rfl (Rd_fieldAddr rfl fo136_3) rfl (hp _ _) ?_
    refine WJ_tk 3 (Rd_load rfl tk76) hp ?_ rfl (by kernel_rfl) rfl rfl rfl
    refine WJ_tp 4 rfl (Rd_move rfl) rfl (hp _ _) ?_
    refine WJ_tp 5 rfl (Rd_move rfl) rfl (hp _ _) ?_
    refine WJ_tp 6 rfl (Rd_addN rfl rfl) rfl (hp _ _) ?_
    refine WJ_tp 7 rfl (Rd_move rfl) rfl (hp _ _) ?_
    refine WJ_tp 8 rfl (Rd_convNU rfl ikd3_24 (h' := uk32)) rfl (hp _ _) ?_
    refine WJ_all (rs := [9]) (by kernel_rfl) rfl ?_
    refine WI_one ?_
    refine WI_ac rfl (Ac_call cf89 rfl (hs := padTR_ct (x := BitVec.ofNat 32 (n + j)))) rfl rfl rfl rfl ?_
    rintro _ _ ⟨⟨⟩, rfl, hA⟩
    simp only [List.cons_append, List.nil_append] at hA
    replace hA := hA.symm
    subst hA
    refine ⟨(fun _ => subA), ?_⟩
    refine WJ_tp 10 rfl (Rd_index ((wdM n) + (n + j)) rfl rfl ud76 sz42 (hi := by omega)) rfl (hp _ _) ?_
    refine WJ_all (rs := [11]) (by kernel_rfl) rfl ?_
    refine WI_one ?_
    refine WI_ac0 rfl (Ac_storeD (padD (n + j)) rfl rfl sz42 (i := (wdM n) + (n + j)) (hi := by rw [dgL_len]; omega)) rfl rfl rfl ?_
    rintro _ _ rfl
    refine ⟨(fun h => by cases h), ?_⟩
    rw [isL_set (K := (padK n (wdM n) j)) (w := (wdM n)) (i := ((wdM n) + (n + j))) (d := (padD (n + j))) (by omega), dgL_set (K := (padK n (wdM n) j)) (w := (wdM n)) (i := ((wdM n) + (n + j))) (d := (padD (n + j))) (by omega)]
    rw [show kset (padK n (wdM n) j) ((((wdM n) + (n + j) : Nat)) : Int) (padD (n + j)) = (padK n (wdM n) (j + 1)) from rfl]
    refine WJ_done (by kernel_rfl) ?_
    refine Ps_next hK30 ?_
    refine WC_region ?_
    refine WL_r (Rd_move rfl) rfl ?_
    refine WL_r (Rd_addN (j := 1) rfl rfl) rfl ?_
    refine WL_r (Rd_assign rfl) rfl ?_
    refine WL_nil ?_
    refine Ps_wkB (hK27 (j + 1) (by omega) (by omega))
   ·try simp only [dz, ne_eq] at hc1
    obtain rfl : j = (wdM n) - n := by omega
    refine WC_exit ?_
    refine Ps_next hK25 ?_
    refine WC_sr fun K32 hK32 => ?_
    refine WL_r (Rd_move rfl) rfl ?_
    refine WL_r (Rd_nilCheck rfl) rfl ?_
    refine WL_r (Rd_fieldAddr rfl fo136_2) rfl ?_
    refine WL_r (Rd_load rfl tk46) rfl ?_
    refine WL_r (Rd_index (1) rfl rfl ud46 sz4 (hi := by omega)) rfl ?_
    refine WL_ac0 (Ac_store_arr true rfl rfl sz4 (j := 0) (i := 1) (hl := isL_at (K := (padK n (wdM n) ((wdM n) - n))) (w := (wdM n)) (by omega))) rfl rfl ?_
    rintro _ _ rfl
    refine WL_end hK32 ?_
    refine WC_seq fun K33 hK33 => ?_
    refine WC_drawA mix (fun i => ([2, 2, 2, 2, 2, 2, 0] : List Nat).getD i 0) ?_
    refine WJ_tp 0 rfl (Rd_move rfl) rfl (hp _ _) ?_
    refine WJ_tp 1 rfl (Rd_nilCheck rfl) rfl (hp _ _) ?_
    refine WJ_tp 2 rfl (Rd_fieldAddr rfl fo136_3) rfl (hp _ _) ?_
    refine WJ_tk 3 (Rd_load rfl tk76) hp ?_ rfl (by kernel_rfl) rfl rfl rfl
    refine WJ_tk 4 (Rd_loadW rfl tk42) hp ?_ rfl (by kernel_rfl) rfl rfl rfl
    refine WJ_tp 5 rfl (Rd_index (1) rfl rfl ud76 sz42 (hi := by omega)) rfl (hp _ _) ?_
    refine WJ_all (rs := [6]) (by kernel_rfl) rfl ?_
    refine WI_one ?_
    refine WI_ac0 rfl (Ac_storeD (root) rfl rfl sz42 (i := 1) (hi := by rw [dgL_len]; omega)) rfl rfl rfl ?_
    rintro _ _ rfl
    refine ⟨(fun h => by cases h), ?_⟩
    rw [isL_set (K := (padK n (wdM n) ((wdM n) - n))) (w := (wdM n)) (i := 1) (d := root) (by omega), dgL_set (K := (padK n (wdM n) ((wdM n) - n))) (w := (wdM n)) (i := 1) (d := root) (by omega)]
    rw [show kset (padK n (wdM n) ((wdM n) - n)) (((1 : Nat)) : Int) root = (upK (kset (padK n (wdM n) ((wdM n) - n)) 1 root) (wdM n) 0) from rfl]
    refine WJ_done (by kernel_rfl) ?_
    refine Ps_next hK33 ?_
    refine WC_seq fun K34 hK34 => ?_
    refine WC_sr fun K35 hK35 => ?_
    refine WL_r (Rd_move rfl) rfl ?_
    refine WL_r (Rd_subN (j := 1) rfl rfl) rfl ?_
    refine WL_r (Rd_assign rfl) rfl ?_
    refine WL_end hK35 ?_
    refine WC_block ?_
    refine WC_loopK (σ := Nat) (fun q => [(9, .int .i64 ((((wdM n) - 1 - q) : Nat) : Int))]) (fun q => [arr (some b22) (2 * (wdM n)) 1 4 eBool (isL (upK (kset (padK n (wdM n) ((wdM n) - n)) 1 root) (wdM n) q) (wdM n)), arr (some b25) (2 * (wdM n)) 32 42 fD (dgL (upK (kset (padK n (wdM n) ((wdM n) - n)) 1 root) (wdM n) q) (wdM n))]) (fun q => q ≤ (wdM n) - 2) (fun q => (wdM n) - q) (0) [4, 5, 7, 119] kpA (by (try dsimp only); repeat (first | with_reducible exact Gv.nil | (with_reducible apply Gv.cons; · (repeat (first | with_reducible exact Ext.here | with_reducible apply Ext.there))))) ?_ ?_ Sub.refl ?_
    ·exact Nat.zero_le _
    ·(try dsimp only); exact (Wk.cons lkA Wk.nil)
    ·rintro q hq K36 hK36
     simp only [List.cons_append, List.nil_append]
     have hdl := Dg_len (((upK (kset (padK n (wdM n) ((wdM n) - n)) 1 root) (wdM n) q) (((2 * ((wdM n) - 1 - q) : Nat)) : Int)).getD zD)
     have hdr := Dg_len (((upK (kset (padK n (wdM n) ((wdM n) - n)) 1 root) (wdM n) q) (((2 * ((wdM n) - 1 - q) + 1 : Nat)) : Int)).getD zD)
     refine WC_seq fun K37 hK37 => ?_
     refine WC_sr fun K38 hK38 => ?_
     refine WL_r (Rd_move rfl) rfl ?_
     refine WL_r (Rd_gtrN (j := 1) rfl rfl) rfl ?_
     refine WL_end hK38 ?_
     refine WC_cond rfl (fun hc2 => ?_) (fun hc2 => ?_)
     ·try simp only [dz, ne_eq] at hc2
      refine WC_skip ?_
      refine Ps_next hK37 ?_
      refine WC_seq fun K39 hK39 => ?_
      refine WC_block ?_
      refine WC_sr fun K40 hK40 => ?_
      refine WL_r (Rd_move rfl) rfl ?_
      refine WL_r (Rd_nilCheck rfl) rfl ?_
      refine WL_r (Rd_fieldAddr rfl fo136_2) rfl ?_
      refine WL_r (Rd_load rfl tk46) rfl ?_
      refine WL_r (Rd_move rfl) rfl ?_
      refine WL_r (Rd_mulN (i := 2) rfl rfl) rfl ?_
      refine WL_r (Rd_index (2 * ((wdM n) - 1 - q)) rfl rfl ud46 sz4 (hi := by omega)) rfl ?_
      refine WL_r (Rd_load_arr (f := eBool) (i := (2 * ((wdM n) - 1 - q))) (j := 0) rfl tk4 (hl := isL_at (K := (upK (kset (padK n (wdM n) ((wdM n) - n)) 1 root) (wdM n) q)) (w := (wdM n)) (by omega))) rfl ?_
      refine WL_r (Rd_move rfl) rfl ?_
      refine WL_bool 78 rfl (fun hg41 => ?_) (fun hg41 => ?_)
      ·try simp only [dz, ne_eq] at hg41
       have q0 := hg41
       refine WL_r (Rd_move rfl) rfl ?_
       refine WL_r (Rd_nilCheck rfl) rfl ?_
       refine WL_r (Rd_fieldAddr rfl fo136_2) rfl ?_
       refine WL_r (Rd_load rfl tk46) rfl ?_
       refine WL_r (Rd_move rfl) rfl ?_
       refine WL_r (Rd_mulN (i := 2) rfl rfl) rfl ?_
       refine WL_r (Rd_addN (j := 1) rfl rfl) rfl ?_
       refine WL_r (Rd_index (2 * ((wdM n) - 1 - q) + 1) rfl rfl ud46 sz4 (hi := by omega)) rfl ?_
       refine WL_r (Rd_load_arr (f := eBool) (i := (2 * ((wdM n) - 1 - q) + 1)) (j := 0) rfl tk4 (hl := isL_at (K := (upK (kset (padK n (wdM n) ((wdM n) - n)) 1 root) (wdM n) q)) (w := (wdM n)) (by omega))) rfl ?_
       refine WL_r (Rd_pickT rfl rfl) rfl ?_
       refine WL_end hK40 ?_
       refine WC_cond rfl (fun hc3 => ?_) (fun hc3 => ?_)
       ·try simp only [dz, ne_eq] at hc3
        refine WC_sr fun K42 hK42 => ?_
        refine WL_r (Rd_move rfl) rfl ?_
        refine WL_r (Rd_nilCheck rfl) rfl ?_
        refine WL_r (Rd_fieldAddr rfl fo136_2) rfl ?_
        refine WL_r (Rd_load rfl tk46) rfl ?_
        refine WL_r (Rd_move rfl) rfl ?_
        refine WL_r (Rd_index (((wdM n) - 1 - q)) rfl rfl ud46 sz4 (hi := by omega)) rfl ?_
        refine WL_ac0 (Ac_store_arr true rfl rfl sz4 (j := 0) (i := ((wdM n) - 1 - q)) (hl := isL_at (K := (upK (kset (padK n (wdM n) ((wdM n) - n)) 1 root) (wdM n) q)) (w := (wdM n)) (by omega))) rfl rfl ?_
        rintro _ _ rfl
        refine WL_end hK42 ?_
        refine WC_drawA mix (fun i => ([2, 2, 2, 2, 2, 2, 2, 2, 2, 2, 2, 2, 2, 2, 2, 2, 2, 2, 2, 2, 2, 2, 1, 2, 0] : List Nat).getD i 0) ?_
        refine WJ_tp 0 rfl (Rd_move rfl) rfl (hp _ _) ?_
        refine WJ_tp 1 rfl (Rd_nilCheck rfl) rfl (hp _ _) ?_
        refine WJ_tp 2 rfl (Rd_fieldAddr rfl fo136_3) rfl (hp _ _) ?_
        refine WJ_tk 3 (Rd_load rfl tk76) hp ?_ rfl (by kernel_rfl) rfl rfl rfl
        refine WJ_tp 4 rfl (Rd_move rfl) rfl (hp _ _) ?_
        refine WJ_tp 5 rfl (Rd_move rfl) rfl (hp _ _) ?_
        refine WJ_tp 6 rfl (Rd_nilCheck rfl) rfl (hp _ _) ?_
        refine WJ_tp 7 rfl (Rd_fieldAddr rfl fo136_3) rfl (hp _ _) ?_
        refine WJ_tk 8 (Rd_load rfl tk76) hp ?_ rfl (by kernel_rfl) rfl rfl rfl
        refine WJ_tp 9 rfl (Rd_move rfl) rfl (hp _ _) ?_
        refine WJ_tp 10 rfl (Rd_mulN (i := 2) rfl rfl) rfl (hp _ _) ?_
        refine WJ_tp 11 rfl (Rd_index (2 * ((wdM n) - 1 - q)) rfl rfl ud76 sz42 (hi := by omega)) rfl (hp _ _) ?_
        refine WJ_tk 12 (Rd_aU (k := .u8) (l := (((upK (kset (padK n (wdM n) ((wdM n) - n)) 1 root) (wdM n) q) ((((2 * ((wdM n) - 1 - q)) : Nat)) : Int)).getD zD).1) (Rd_loadg_arr (f := fD) (i := (2 * ((wdM n) - 1 - q))) rfl tk42 (hl := dgL_at (K := (upK (kset (padK n (wdM n) ((wdM n) - n)) 1 root) (wdM n) q)) (w := (wdM n)) (by omega))) rfl) hp ?_ rfl (by kernel_rfl) rfl rfl rfl
        refine WJ_tp 13 rfl (Rd_move rfl) rfl (hp _ _) ?_
        refine WJ_tp 14 rfl (Rd_nilCheck rfl) rfl (hp _ _) ?_
        refine WJ_tp 15 rfl (Rd_fieldAddr rfl fo136_3) rfl (hp _ _) ?_
        refine WJ_tk 16 (Rd_load rfl tk76) hp ?_ rfl (by kernel_rfl) rfl rfl rfl
        refine WJ_tp 17 rfl (Rd_move rfl) rfl (hp _ _) ?_
        refine WJ_tp 18 rfl (Rd_mulN (i := 2) rfl rfl) rfl (hp _ _) ?_
        refine WJ_tp 19 rfl (Rd_addN (j := 1) rfl rfl) rfl (hp _ _) ?_
        refine WJ_tp 20 rfl (Rd_index (2 * ((wdM n) - 1 - q) + 1) rfl rfl ud76 sz42 (hi := by omega)) rfl (hp _ _) ?_
        refine WJ_tk 21 (Rd_aU (k := .u8) (l := (((upK (kset (padK n (wdM n) ((wdM n) - n)) 1 root) (wdM n) q) ((((2 * ((wdM n) - 1 - q) + 1) : Nat)) : Int)).getD zD).1) (Rd_loadg_arr (f := fD) (i := (2 * ((wdM n) - 1 - q) + 1)) rfl tk42 (hl := dgL_at (K := (upK (kset (padK n (wdM n) ((wdM n) - n)) 1 root) (wdM n) q)) (w := (wdM n)) (by omega))) rfl) hp ?_ rfl (by kernel_rfl) rfl rfl rfl
        refine WJ_all (rs := [22]) (by kernel_rfl) rfl ?_
        refine WI_one ?_
        refine WI_ac rfl (Ac_call cf77 rfl (hs := nodeR_ct (x := (((upK (kset (padK n (wdM n) ((wdM n) - n)) 1 root) (wdM n) q) (((2 * ((wdM n) - 1 - q) : Nat)) : Int)).getD zD).1) (y := (((upK (kset (padK n (wdM n) ((wdM n) - n)) 1 root) (wdM n) q) (((2 * ((wdM n) - 1 - q) + 1 : Nat)) : Int)).getD zD).1) (hx := Dg_len _) (hy := Dg_len _))) rfl rfl rfl rfl ?_
        rintro _ _ ⟨⟨⟩, rfl, hA⟩
        simp only [List.cons_append, List.nil_append] at hA
        replace hA := hA.symm
        subst hA
        refine ⟨(fun _ => subA), ?_⟩
        refine WJ_tp 23 rfl (Rd_index (((wdM n) - 1 - q)) rfl rfl ud76 sz42 (hi := by omega)) rfl (hp _ _) ?_
        refine WJ_all (rs := [24]) (by kernel_rfl) rfl ?_
        refine WI_one ?_
        refine WI_ac0 rfl (Ac_storeD ((nodeD (((upK (kset (padK n (wdM n) ((wdM n) - n)) 1 root) (wdM n) q) (((2 * ((wdM n) - 1 - q) : Nat)) : Int)).getD zD) (((upK (kset (padK n (wdM n) ((wdM n) - n)) 1 root) (wdM n) q) (((2 * ((wdM n) - 1 - q) + 1 : Nat)) : Int)).getD zD))) rfl rfl sz42 (i := ((wdM n) - 1 - q)) (hi := by rw [dgL_len]; omega)) rfl rfl rfl ?_
        rintro _ _ rfl
        refine ⟨(fun h => by cases h), ?_⟩
        rw [isL_set (K := (upK (kset (padK n (wdM n) ((wdM n) - n)) 1 root) (wdM n) q)) (w := (wdM n)) (i := ((wdM n) - 1 - q)) (d := (nodeD (((upK (kset (padK n (wdM n) ((wdM n) - n)) 1 root) (wdM n) q) (((2 * ((wdM n) - 1 - q) : Nat)) : Int)).getD zD) (((upK (kset (padK n (wdM n) ((wdM n) - n)) 1 root) (wdM n) q) (((2 * ((wdM n) - 1 - q) + 1 : Nat)) : Int)).getD zD))) (by omega), dgL_set (K := (upK (kset (padK n (wdM n) ((wdM n) - n)) 1 root) (wdM n) q)) (w := (wdM n)) (i := ((wdM n) - 1 - q)) (d := (nodeD (((upK (kset (padK n (wdM n) ((wdM n) - n)) 1 root) (wdM n) q) (((2 * ((wdM n) - 1 - q) : Nat)) : Int)).getD zD) (((upK (kset (padK n (wdM n) ((wdM n) - n)) 1 root) (wdM n) q) (((2 * ((wdM n) - 1 - q) + 1 : Nat)) : Int)).getD zD))) (by omega)]
        rw [show kset (upK (kset (padK n (wdM n) ((wdM n) - n)) 1 root) (wdM n) q) (((((wdM n) - 1 - q) : Nat)) : Int) (nodeD (((upK (kset (padK n (wdM n) ((wdM n) - n)) 1 root) (wdM n) q) (((2 * ((wdM n) - 1 - q) : Nat)) : Int)).getD zD) (((upK (kset (padK n (wdM n) ((wdM n) - n)) 1 root) (wdM n) q) (((2 * ((wdM n) - 1 - q) + 1 : Nat)) : Int)).getD zD)) = (upK (kset (padK n (wdM n) ((wdM n) - n)) 1 root) (wdM n) (q + 1)) from (stepK_yes (kis q0) (kis hc3)).symm]
        refine WJ_done (by kernel_rfl) ?_
        refine Ps_next hK39 ?_
        refine WC_region ?_
        refine WL_r (Rd_move rfl) rfl ?_
        refine WL_r (Rd_subN (j := 1) rfl rfl) rfl ?_
        rw [show ((wdM n) - 1 - q) - 1 = (wdM n) - 1 - (q + 1) from rfl]
        refine WL_r (Rd_assign rfl) rfl ?_
        refine WL_nil ?_
        refine Ps_wkB (hK36 (q + 1) (by omega) (by omega))
       ·try simp only [dz, ne_eq] at hc3
        first | (have hst : stepK (upK (kset (padK n (wdM n) ((wdM n) - n)) 1 root) (wdM n) q) ((wdM n) - 1 - q) = (upK (kset (padK n (wdM n) ((wdM n) - n)) 1 root) (wdM n) q) := stepK_no (.inl (by simpa using q0))) | (have hst : stepK (upK (kset (padK n (wdM n) ((wdM n) - n)) 1 root) (wdM n) q) ((wdM n) - 1 - q) = (upK (kset (padK n (wdM n) ((wdM n) - n)) 1 root) (wdM n) q) := stepK_no (.inr (by simpa using hc3)))
        rw [show (upK (kset (padK n (wdM n) ((wdM n) - n)) 1 root) (wdM n) q) = (upK (kset (padK n (wdM n) ((wdM n) - n)) 1 root) (wdM n) (q + 1)) from hst.symm]
        refine WC_skip ?_
        refine Ps_next hK39 ?_
        refine WC_region ?_
        refine WL_r (Rd_move rfl) rfl ?_
        refine WL_r (Rd_subN (j := 1) rfl rfl) rfl ?_
        rw [show ((wdM n) - 1 - q) - 1 = (wdM n) - 1 - (q + 1) from rfl]
        refine WL_r (Rd_assign rfl) rfl ?_
        refine WL_nil ?_
        refine Ps_wkB (hK36 (q + 1) (by omega) (by omega))
      ·try simp only [dz, ne_eq] at hg41
       have q0 := hg41
       refine WL_skip rfl rfl rfl ?_
       refine WL_skip rfl rfl rfl ?_
       refine WL_skip rfl rfl rfl ?_
       refine WL_skip rfl rfl rfl ?_
       refine WL_skip rfl rfl rfl ?_
       refine WL_skip rfl rfl rfl ?_
       refine WL_skip rfl rfl rfl ?_
       refine WL_skip rfl rfl rfl ?_
       refine WL_skip rfl rfl rfl ?_
       refine WL_r (Rd_pickF rfl rfl) rfl ?_
       refine WL_end hK40 ?_
       refine WC_condF rfl ?_
       first | (have hst : stepK (upK (kset (padK n (wdM n) ((wdM n) - n)) 1 root) (wdM n) q) ((wdM n) - 1 - q) = (upK (kset (padK n (wdM n) ((wdM n) - n)) 1 root) (wdM n) q) := stepK_no (.inl (by simpa using q0))) | (have hst : stepK (upK (kset (padK n (wdM n) ((wdM n) - n)) 1 root) (wdM n) q) ((wdM n) - 1 - q) = (upK (kset (padK n (wdM n) ((wdM n) - n)) 1 root) (wdM n) q) := stepK_no (.inr (by simpa using hc3)))
       rw [show (upK (kset (padK n (wdM n) ((wdM n) - n)) 1 root) (wdM n) q) = (upK (kset (padK n (wdM n) ((wdM n) - n)) 1 root) (wdM n) (q + 1)) from hst.symm]
       refine WC_skip ?_
       refine Ps_next hK39 ?_
       refine WC_region ?_
       refine WL_r (Rd_move rfl) rfl ?_
       refine WL_r (Rd_subN (j := 1) rfl rfl) rfl ?_
       rw [show ((wdM n) - 1 - q) - 1 = (wdM n) - 1 - (q + 1) from rfl]
       refine WL_r (Rd_assign rfl) rfl ?_
       refine WL_nil ?_
       refine Ps_wkB (hK36 (q + 1) (by omega) (by omega))
     ·try simp only [dz, ne_eq] at hc2
      obtain rfl : q = (wdM n) - 2 := by omega
      rw [show (upK (kset (padK n (wdM n) ((wdM n) - n)) 1 root) (wdM n) ((wdM n) - 2)) = (newK n root) from rfl]
      refine WC_exit ?_
      refine Ps_next hK34 ?_
      refine WC_sr fun K43 hK43 => ?_
      refine WL_r (Rd_move rfl) rfl ?_
      refine WL_r (Rd_assign rfl) rfl ?_
      refine WL_r (Rd_assign rfl) rfl ?_
      refine WL_end hK43 ?_
      refine WC_ret ?_
      exact hret.gf (b27, b22, b25) (Rs2 rfl rfl rfl)

theorem dNew_no {n : Int} {root : Dg} (h1 : n < 1 ∨ 512 < n) : Ct Try.prog 78 [.int .i64 n, aU .u8 root.1] [] (fun _ : Unit => .tuple #[.pointer none, .int .i64 110]) (fun _ => []) := by
 refine Ct_body (n := 120) Try.func78 rfl rfl rfl fun F w0 Q hret hnorm hp => ?_
 change WC _ _ _ _ _ _ _ (F)
 have hrl := Dg_len root
 refine WC_sr fun K1 hK1 => ?_
 refine WL_ac (Ac_boxW (k := .u8) rfl) rfl rfl rfl ?_
 rintro _ _ ⟨b3, rfl, rfl⟩
 refine WL_r (Rd_assign rfl) rfl ?_
 refine WL_r (Rd_assign rfl) rfl ?_
 refine WL_end hK1 ?_
 refine WC_seq fun K2 hK2 => ?_
 refine WC_sr fun K3 hK3 => ?_
 refine WL_r (Rd_move rfl) rfl ?_
 refine WL_r (Rd_lss rfl rfl) rfl ?_
 refine WL_r (Rd_move rfl) rfl ?_
 refine WL_bool 12 rfl (fun hg4 => ?_) (fun hg4 => ?_)
 ·try simp only [dz, ne_eq] at hg4
  refine WL_skip rfl rfl rfl ?_
  refine WL_skip rfl rfl rfl ?_
  refine WL_r (Rd_pickT rfl rfl) rfl ?_
  refine WL_end hK3 ?_
  refine WC_condT rfl ?_
  refine WC_sr fun K5 hK5 => ?_
  refine WL_r (Rd_assign rfl) rfl ?_
  refine WL_r (Rd_assign rfl) rfl ?_
  refine WL_end hK5 ?_
  refine WC_ret ?_
  exact hret.gf () (Rs2 rfl rfl rfl)
 ·try simp only [dz, ne_eq] at hg4
  have q1 := hg4
  refine WL_r (Rd_move rfl) rfl ?_
  refine WL_r (Rd_isT (Rd_gtr rfl rfl) (decide_eq_true (by omega))) rfl ?_
  refine WL_r (Rd_pickF rfl rfl) rfl ?_
  refine WL_end hK3 ?_
  refine WC_condT rfl ?_
  refine WC_sr fun K6 hK6 => ?_
  refine WL_r (Rd_assign rfl) rfl ?_
  refine WL_r (Rd_assign rfl) rfl ?_
  refine WL_end hK6 ?_
  refine WC_ret ?_
  exact hret.gf () (Rs2 rfl rfl rfl)
end Go.Proofs.Ytgkpbeikcpecbaa
