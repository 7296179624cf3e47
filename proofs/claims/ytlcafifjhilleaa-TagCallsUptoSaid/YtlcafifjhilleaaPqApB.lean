/-
  Contracts of functions that the claim reaches, or the logic and the plain laws that they rest on, or the row over them. (Conditions: none beyond the statement.)
-/
import Derived.Test.YtlcafifjhilleaaPqD
import Derived.Test.YtlcafifjhilleaaPqC
import Derived.Test.YtlcafifjhilleaaApB
set_option linter.all false
namespace Go.Proofs.Ytlcafifjhilleaa
open Go.RowKit Go.SL Go.ShM
set_option maxHeartbeats 1000000
set_option maxRecDepth 20000
set_option linter.all false

theorem at_B8 {l : List B8} {i : Nat} (h : i < l.length) : l[i]? = some (l.getD i 0#8) := by rw [List.getD_eq_getElem?_getD, List.getElem?_eq_getElem h]; rfl

theorem apartB_ct {X : Asn} {v : Value} {ps : List PB} {ao : Option Addr} {cap : Nat} (hS : Sv [X] v 1 ePB ps ao cap := by assumption) (hn : ps.length ≤ 100000000 := by omega) (hb : ∀ p ∈ ps, p.l.length ≤ 900000000000 := by assumption) : Ct Try.prog 11 [v] [X, star (FPB 5) ps] (fun _ : Unit => .bool true) (fun _ => [X]) := by
  refine Ct_body (n := 116) Try.func11 rfl rfl rfl fun F w0 Q hret hnorm hp => ?_
  change WC _ _ _ _ _ _ _ (_ :: _ :: F)
  refine WC_sr fun K1 hK1 => ?_
  refine WL_rd (Rd_assign rfl) rfl rfl rfl ?_
  refine WL_end hK1 ?_
  refine WC_seq fun K2 hK2 => ?_
  refine WC_sr fun K3 hK3 => ?_
  refine WL_rd (Rd_assign rfl) rfl rfl rfl ?_
  refine WL_end hK3 ?_
  refine WC_block ?_
  rw [show star (FPB 5) ps = star (FPB 5) (mkdB ps 0) from by rw [mkdB_0]]
  refine WC_loopK (σ := Nat) (fun k => [(3, .int .i64 ((k : Nat) : Int))]) (fun k => [star (FPB 5) (mkdB ps k)]) (fun k => k ≤ ps.length) (fun k => ps.length - k) (0) [0, 2, 5, 6, 7, 8, 9, 10, 11, 37, 38, 39, 40, 41, 42, 43, 44, 45, 46, 47, 48, 49, 50, 51, 52, 53, 54, 55, 56, 57, 58, 59, 60, 61, 62, 63, 64, 65, 66, 67, 68, 69, 70, 71, 72, 73, 74, 75, 76, 77, 78, 79, 80, 81, 82, 83, 84, 85, 86, 87, 88, 89, 90, 91, 92, 93, 94, 95, 96, 97, 98, 99, 100, 101, 102, 103, 104, 105, 106, 107, 108, 109, 110, 111, 112, 113, 114, 115] (by repeat (first | exact Kep.nil | apply Kep.drop rfl | apply Kep.keep rfl)) (by (try dsimp only); repeat (first | with_reducible exact Gv.nil | (with_reducible apply Gv.cons; · (repeat (first | with_reducible exact Ext.here | with_reducible apply Ext.there))))) ?_ ?_ Sub.refl ?_
  · exact Nat.zero_le _
  · (try dsimp only); exact (Wk.cons (by first | rfl | (simp only [List.length_append, List.length_cons, List.length_nil, List.length_replicate, Nat.zero_add]; rfl) | (simp; done)) Wk.nil)
  · rintro k hk K4 hK4
    simp only [List.cons_append, List.nil_append]
    refine WC_seq fun K5 hK5 => ?_
    refine WC_sr fun K6 hK6 => ?_
    refine WL_rd (Rd_move rfl) rfl rfl rfl ?_
    refine WL_rd (Rd_move rfl) rfl rfl rfl ?_
    refine WL_rd (Rd_len_sv rfl rfl ud22) rfl rfl rfl ?_
    refine WL_rd (Rd_lssN rfl rfl) rfl rfl rfl ?_
    refine WL_end hK6 ?_
    refine WC_cond rfl (fun hc0 => ?_) (fun hc0 => ?_)
    · try simp only [decide_eq_true_eq, decide_eq_false_iff_not, Bool.not_eq_true', Bool.not_eq_false', Bool.not_eq_true, Bool.not_eq_false, Int.not_lt, Int.not_le, Nat.not_lt, Nat.not_le, Decidable.not_not, ne_eq] at hc0
      obtain ⟨⟨pa, pc, pl⟩, hpk⟩ : ∃ p, ps[k]? = some p := ⟨_, List.getElem?_eq_getElem (by omega)⟩
      have hpb := hb _ (List.mem_of_getElem? hpk)
      dsimp only at hpb
      refine WC_open (FPB 5) (mkdB ps k) k (x := ⟨pa, pc, pl⟩) (by rw [mkdB_at hpk, if_neg (by omega)]) ?_
      rw [show FPB 5 ⟨pa, pc, pl⟩ = arr pa pc 1 5 (eU .u8 (w := 8)) pl from rfl]
      refine WC_skip ?_
      refine Ps_next hK5 ?_
      refine WC_seq fun K7 hK7 => ?_
      refine WC_block ?_
      refine WC_sr fun K8 hK8 => ?_
      refine WL_rd (Rd_assign rfl) rfl rfl rfl ?_
      refine WL_end hK8 ?_
      refine WC_block ?_
      rw [show arr pa pc 1 5 (eU .u8 (w := 8)) pl = arr pa pc 1 5 (eU .u8 (w := 8)) (ovl (mkB (k + 1)) pl 0) from by rw [ovl_0]]
      refine WC_loopK (σ := Nat) (fun i' => [(4, .int .i64 ((i' : Nat) : Int))]) (fun i' => [arr pa pc 1 5 (eU .u8 (w := 8)) (ovl (mkB (k + 1)) pl i')]) (fun i' => i' ≤ pl.length) (fun i' => pl.length - i') (0) [0, 2, 3, 5, 6, 7, 8, 9, 10, 11, 12, 13, 14, 15, 16, 17, 37, 38, 39, 40, 41, 42, 43, 44, 45, 46, 47, 48, 49, 50, 51, 52, 53, 54, 55, 56, 57, 58, 59, 60, 61, 62, 63, 64, 65, 66, 67, 68, 69, 70, 71, 72, 73, 74, 75, 76, 77, 78, 79, 80, 81, 82, 83, 84, 85, 86, 87, 88, 89, 90, 91, 92, 93, 94, 95, 96, 97, 98, 99, 100, 101, 102, 103, 104, 105, 106, 107, 108, 109, 110, 111, 112, 113, 114, 115] (by repeat (first | exact Kep.nil | apply Kep.drop rfl | apply Kep.keep rfl)) (by (try dsimp only); repeat (first | with_reducible exact Gv.nil | (with_reducible apply Gv.cons; · (repeat (first | with_reducible exact Ext.here | with_reducible apply Ext.there))))) ?_ ?_ Sub.refl ?_
      · exact Nat.zero_le _
      · (try dsimp only); exact (Wk.cons (by first | rfl | (simp only [List.length_append, List.length_cons, List.length_nil, List.length_replicate, Nat.zero_add]; rfl) | (simp; done)) Wk.nil)
      · rintro i' hi K9 hK9
        simp only [List.cons_append, List.nil_append]
        have hol := ovl_len (mkB (k + 1)) hi
        refine WC_seq fun K10 hK10 => ?_
        refine WC_sr fun K11 hK11 => ?_
        refine WL_rd (Rd_move rfl) rfl rfl rfl ?_
        refine WL_rd (Rd_move rfl) rfl rfl rfl ?_
        refine WL_rd (Rd_move rfl) rfl rfl rfl ?_
        refine WL_rd (Rd_index_sv k rfl rfl ud22 sz23 (hA := hS) (hi := by omega)) rfl rfl rfl ?_
        refine WL_rd (Rd_load_sv (i := k) (j := 0) (u := sl pa pl.length pc) rfl tk23 (hA := hS) (hl := hpk)) rfl rfl rfl ?_
        refine WL_rd (Rd_len rfl rfl ud23) rfl rfl rfl ?_
        refine WL_rd (Rd_lssN rfl rfl) rfl rfl rfl ?_
        refine WL_end hK11 ?_
        refine WC_cond rfl (fun hc1 => ?_) (fun hc1 => ?_)
        · try simp only [decide_eq_true_eq, decide_eq_false_iff_not, Bool.not_eq_true', Bool.not_eq_false', Bool.not_eq_true, Bool.not_eq_false, Int.not_lt, Int.not_le, Nat.not_lt, Nat.not_le, Decidable.not_not, ne_eq] at hc1
          refine WC_some (a := pa) (by repeat (first | with_reducible exact Has.here | with_reducible refine Has.there ?_)) (by omega) (fun gb hgb hcp => ?_)
          subst hgb
          refine WC_skip ?_
          refine Ps_next hK10 ?_
          refine WC_seq fun K12 hK12 => ?_
          refine WC_block ?_
          refine WC_drawA mix (fun i => ([2, 2, 2, 2, 2, 2, 2, 2, 1, 2, 0] : List Nat).getD i 0) ?_
          refine WJ_takeP 0 rfl (by kernel_rfl) (Rd_move rfl) rfl rfl rfl (hp _ _) ?_
          refine WJ_takeP 1 rfl (by kernel_rfl) (Rd_move rfl) rfl rfl rfl (hp _ _) ?_
          refine WJ_takeP 2 rfl (by kernel_rfl) (Rd_index_sv k rfl rfl ud22 sz23 (hA := hS) (hi := by omega)) rfl rfl rfl (hp _ _) ?_
          refine WJ_tk 3 (Rd_load_sv (i := k) (j := 0) (u := sl (some gb) pl.length pc) rfl tk23 (hA := hS) (hl := hpk)) hp ?_ rfl (by kernel_rfl) rfl rfl rfl
          refine WJ_takeP 4 rfl (by kernel_rfl) (Rd_move rfl) rfl rfl rfl (hp _ _) ?_
          refine WJ_takeP 5 rfl (by kernel_rfl) (Rd_move rfl) rfl rfl rfl (hp _ _) ?_
          refine WJ_takeP 6 rfl (by kernel_rfl) (Rd_addN (j := 1) rfl rfl) rfl rfl rfl (hp _ _) ?_
          refine WJ_takeP 7 rfl (by kernel_rfl) (Rd_move rfl) rfl rfl rfl (hp _ _) ?_
          refine WJ_all (rs := [8]) (by kernel_rfl) rfl ?_
          refine WI_one ?_
          refine WI_ac rfl (Ac_call cf36 rfl (hs := mark_ct (k := k + 1) (i := i'))) rfl rfl rfl rfl ?_
          rintro _ _ ⟨⟨⟩, rfl, hA⟩
          simp only [List.cons_append, List.nil_append] at hA
          replace hA := hA.symm
          subst hA
          refine ⟨(fun _ => (by repeat (first | with_reducible exact Sub.refl | with_reducible exact Sub.nil | with_reducible refine Sub.cons (by repeat (first | with_reducible exact Ext.here | with_reducible apply Ext.there)) ?_ | with_reducible refine Sub.tail ?_))), ?_⟩
          refine WJ_takeP 9 rfl (by kernel_rfl) (Rd_index _ rfl rfl ud23 sz5) rfl rfl rfl (hp _ _) ?_
          refine WJ_all (rs := [10]) (by kernel_rfl) rfl ?_
          refine WI_one ?_
          refine WI_ac0 rfl (Ac_store_arr (mkB (k + 1) i') rfl rfl sz5 (j := 0) (i := i') (hl := at_B8 (by omega))) rfl rfl rfl ?_
          rintro _ _ rfl
          refine ⟨(fun h => by cases h), ?_⟩
          rw [ovl_set (mkB (k + 1)) (by omega)]
          refine WJ_done (by kernel_rfl) ?_
          refine Ps_next hK12 ?_
          refine WC_region ?_
          refine WL_rd (Rd_move rfl) rfl rfl rfl ?_
          refine WL_rd (Rd_addN (j := 1) rfl rfl) rfl rfl rfl ?_
          refine WL_rd (Rd_assign rfl) rfl rfl rfl ?_
          refine WL_nil ?_
          refine Ps_wk (by (try simp only [List.cons_append, List.nil_append]); repeat (first | with_reducible exact Wk.nil | refine Wk.cons (by first | rfl | (simp only [List.length_append, List.length_cons, List.length_nil, List.length_replicate, Nat.zero_add]; rfl) | (simp; done)) ?_)) (by (try simp only [List.cons_append, List.nil_append]); repeat (first | with_reducible exact Sub.refl | with_reducible exact Sub.nil | with_reducible refine Sub.cons (by repeat (first | with_reducible exact Ext.here | with_reducible apply Ext.there)) ?_ | with_reducible refine Sub.tail ?_)) (hK9 (i' + 1) (by omega) (by omega))
        · try simp only [decide_eq_true_eq, decide_eq_false_iff_not, Bool.not_eq_true', Bool.not_eq_false', Bool.not_eq_true, Bool.not_eq_false, Int.not_lt, Int.not_le, Nat.not_lt, Nat.not_le, Decidable.not_not, ne_eq] at hc1
          obtain rfl : i' = pl.length := by omega
          rw [ovl_all]
          rw [show arr pa pc 1 5 (eU .u8 (w := 8)) (mks (mkB (k + 1)) 0 pl.length) = FPB 5 (mkPB k ⟨pa, pc, pl⟩) from rfl]
          refine WC_shut (FPB 5) (mkdB ps k) k (mkPB k ⟨pa, pc, pl⟩) (by rw [mkdB_len]; omega) ?_
          rw [mkdB_set hpk]
          refine WC_exit ?_
          refine Ps_next hK7 ?_
          refine WC_region ?_
          refine WL_rd (Rd_move rfl) rfl rfl rfl ?_
          refine WL_rd (Rd_addN (j := 1) rfl rfl) rfl rfl rfl ?_
          refine WL_rd (Rd_assign rfl) rfl rfl rfl ?_
          refine WL_nil ?_
          refine Ps_wk (by (try simp only [List.cons_append, List.nil_append]); repeat (first | with_reducible exact Wk.nil | refine Wk.cons (by first | rfl | (simp only [List.length_append, List.length_cons, List.length_nil, List.length_replicate, Nat.zero_add]; rfl) | (simp; done)) ?_)) (by (try simp only [List.cons_append, List.nil_append]); repeat (first | with_reducible exact Sub.refl | with_reducible exact Sub.nil | with_reducible refine Sub.cons (by repeat (first | with_reducible exact Ext.here | with_reducible apply Ext.there)) ?_ | with_reducible refine Sub.tail ?_)) (hK4 (k + 1) (by omega) (by omega))
    · try simp only [decide_eq_true_eq, decide_eq_false_iff_not, Bool.not_eq_true', Bool.not_eq_false', Bool.not_eq_true, Bool.not_eq_false, Int.not_lt, Int.not_le, Nat.not_lt, Nat.not_le, Decidable.not_not, ne_eq] at hc0
      obtain rfl : k = ps.length := by omega
      rw [show star (FPB 5) (mkdB ps ps.length) = star (FPB 5) ((mkdB ps ps.length).drop 0) from rfl]
      refine WC_imp (fun w h => sat_nil (e := 1) (T := 23) (f := eQI) h) ?_
      refine WC_exit ?_
      refine Ps_next hK2 ?_
      refine WC_sr fun K13 hK13 => ?_
      refine WL_rd (Rd_assign (v := sl none 0 0) rfl) rfl rfl rfl ?_
      refine WL_nilarr eQI 1 23 ?_
      refine WL_end hK13 ?_
      refine WC_seq fun K14 hK14 => ?_
      refine WC_sr fun K15 hK15 => ?_
      refine WL_rd (Rd_assign rfl) rfl rfl rfl ?_
      refine WL_end hK15 ?_
      refine WC_block ?_
      refine WC_star0 (FQB 5) ?_
      refine WC_loopK (σ := Nat × (List QI) × (Option Nat) × Nat) (fun ⟨k, qs, go, gc⟩ => [(5, sl go qs.length gc), (6, .int .i64 ((k : Nat) : Int))]) (fun ⟨k, qs, go, gc⟩ => [star (FQB 5) qs, star (FPB 5) ((mkdB ps ps.length).drop k), arr go gc 1 23 eQI qs]) (fun ⟨k, qs, go, gc⟩ => k ≤ ps.length ∧ qs.length = k ∧ QOkB ps qs) (fun ⟨k, qs, go, gc⟩ => ps.length - k) ⟨0, [], none, 0⟩ [0, 2, 9, 10, 11, 68, 69, 70, 71, 72, 73, 74, 75, 76, 77, 78, 79, 80, 81, 82, 83, 84, 85, 86, 87, 88, 89, 90, 91, 92, 93, 94, 95, 96, 97, 98, 99, 100, 101, 102, 103, 104, 105, 106, 107, 108, 109, 110, 111, 112, 113, 114, 115] (by repeat (first | exact Kep.nil | apply Kep.drop rfl | apply Kep.keep rfl)) (by (try dsimp only); repeat (first | with_reducible exact Gv.nil | (with_reducible apply Gv.cons; · (repeat (first | with_reducible exact Ext.here | with_reducible apply Ext.there))))) ?_ ?_ Sub.refl ?_
      · exact ⟨Nat.zero_le _, rfl, QOkB_nil⟩
      · (try dsimp only); exact (Wk.cons (by first | rfl | (simp only [List.length_append, List.length_cons, List.length_nil, List.length_replicate, Nat.zero_add]; rfl) | (simp; done)) (Wk.cons (by first | rfl | (simp only [List.length_append, List.length_cons, List.length_nil, List.length_replicate, Nat.zero_add]; rfl) | (simp; done)) Wk.nil))
      · rintro ⟨k, qs, go, gc⟩ ⟨hk, hql, hQ⟩ K16 hK16
        simp only [List.cons_append, List.nil_append]
        refine WC_seq fun K17 hK17 => ?_
        refine WC_sr fun K18 hK18 => ?_
        refine WL_rd (Rd_move rfl) rfl rfl rfl ?_
        refine WL_rd (Rd_move rfl) rfl rfl rfl ?_
        refine WL_rd (Rd_len_sv rfl rfl ud22) rfl rfl rfl ?_
        refine WL_rd (Rd_lssN rfl rfl) rfl rfl rfl ?_
        refine WL_end hK18 ?_
        refine WC_cond rfl (fun hc2 => ?_) (fun hc2 => ?_)
        · try simp only [decide_eq_true_eq, decide_eq_false_iff_not, Bool.not_eq_true', Bool.not_eq_false', Bool.not_eq_true, Bool.not_eq_false, Int.not_lt, Int.not_le, Nat.not_lt, Nat.not_le, Decidable.not_not, ne_eq] at hc2
          obtain ⟨⟨pa, pc, pl⟩, hpk⟩ : ∃ p, ps[k]? = some p := ⟨_, List.getElem?_eq_getElem (by omega)⟩
          have hpb := hb _ (List.mem_of_getElem? hpk)
          dsimp only at hpb
          refine WC_drop (FPB 5) (mkdB ps ps.length) k (x := mkPB k ⟨pa, pc, pl⟩) (mkdB_all hpk) ?_
          rw [show FPB 5 (mkPB k ⟨pa, pc, pl⟩) = arr pa pc 1 5 (eU .u8 (w := 8)) (mks (mkB (k + 1)) 0 pl.length) from rfl]
          refine WC_fact (fun w h => arr_facts (a := pa) (cap := pc) (e := 1) (T := 5) (f := eU .u8 (w := 8)) (l := mks (mkB (k + 1)) 0 pl.length) (by repeat (first | with_reducible exact Has.here | with_reducible refine Has.there ?_)) h) (fun hpf => ?_)
          rw [mks_len] at hpf
          refine WC_imp (fun w h => apk_start h) ?_
          refine WC_skip ?_
          refine Ps_next hK17 ?_
          refine WC_seq fun K19 hK19 => ?_
          refine WC_block ?_
          refine WC_sr fun K20 hK20 => ?_
          refine WL_rd (Rd_move rfl) rfl rfl rfl ?_
          refine WL_rd (Rd_move rfl) rfl rfl rfl ?_
          refine WL_rd (Rd_index_sv k rfl rfl ud22 sz23 (hA := hS) (hi := by omega)) rfl rfl rfl ?_
          refine WL_rd (Rd_load_sv (i := k) (j := 0) (u := sl pa pl.length pc) rfl tk23 (hA := hS) (hl := hpk)) rfl rfl rfl ?_
          refine WL_rd (Rd_assign rfl) rfl rfl rfl ?_
          refine WL_end hK20 ?_
          refine WC_seq fun K21 hK21 => ?_
          refine WC_sr fun K22 hK22 => ?_
          refine WL_rd (Rd_assign rfl) rfl rfl rfl ?_
          refine WL_end hK22 ?_
          refine WC_block ?_
          rw [show apk pa pc pa pc 1 5 (eU .u8 (w := 8)) (mks (mkB (k + 1)) 0 pl.length) (mks (mkB (k + 1)) 0 pl.length) = apk pa pc pa pc 1 5 (eU .u8 (w := 8)) (mks (mkB (k + 1)) 0 pl.length) (mks (mkB (k + 1)) 0 (pl.length + 0)) from rfl]
          refine WC_loopK (σ := Nat × (Option Nat) × Nat) (fun ⟨i', a', c'⟩ => [(7, sl a' (pl.length + i') c'), (8, .int .i64 ((i' : Nat) : Int))]) (fun ⟨i', a', c'⟩ => [apk pa pc a' c' 1 5 (eU .u8 (w := 8)) (mks (mkB (k + 1)) 0 pl.length) (mks (mkB (k + 1)) 0 (pl.length + i'))]) (fun ⟨i', a', c'⟩ => i' ≤ 70) (fun ⟨i', a', c'⟩ => 70 - i') ⟨0, pa, pc⟩ [0, 2, 5, 6, 9, 10, 11, 37, 38, 39, 40, 41, 42, 43, 44, 45, 46, 64, 65, 66, 67, 68, 69, 70, 71, 72, 73, 74, 75, 76, 77, 78, 79, 80, 81, 82, 83, 84, 85, 86, 87, 88, 89, 90, 91, 92, 93, 94, 95, 96, 97, 98, 99, 100, 101, 102, 103, 104, 105, 106, 107, 108, 109, 110, 111, 112, 113, 114, 115] (by repeat (first | exact Kep.nil | apply Kep.drop rfl | apply Kep.keep rfl)) (by (try dsimp only); repeat (first | with_reducible exact Gv.nil | (with_reducible apply Gv.cons; · (repeat (first | with_reducible exact Ext.here | with_reducible apply Ext.there))))) ?_ ?_ Sub.refl ?_
          · exact Nat.zero_le _
          · (try dsimp only); exact (Wk.cons (by first | rfl | (simp only [List.length_append, List.length_cons, List.length_nil, List.length_replicate, Nat.zero_add]; rfl) | (simp; done)) (Wk.cons (by first | rfl | (simp only [List.length_append, List.length_cons, List.length_nil, List.length_replicate, Nat.zero_add]; rfl) | (simp; done)) Wk.nil))
          · rintro ⟨i', a', c'⟩ hi K23 hK23
            simp only [List.cons_append, List.nil_append]
            have hml := mks_len (mkB (k + 1)) 0 (pl.length + i')
            refine WC_seq fun K24 hK24 => ?_
            refine WC_sr fun K25 hK25 => ?_
            refine WL_rd (Rd_move rfl) rfl rfl rfl ?_
            refine WL_rd (Rd_lssN (j := 70) rfl rfl) rfl rfl rfl ?_
            refine WL_end hK25 ?_
            refine WC_cond rfl (fun hc3 => ?_) (fun hc3 => ?_)
            · try simp only [decide_eq_true_eq, decide_eq_false_iff_not, Bool.not_eq_true', Bool.not_eq_false', Bool.not_eq_true, Bool.not_eq_false, Int.not_lt, Int.not_le, Nat.not_lt, Nat.not_le, Decidable.not_not, ne_eq] at hc3
              refine WC_skip ?_
              refine Ps_next hK24 ?_
              refine WC_seq fun K26 hK26 => ?_
              refine WC_block ?_
              refine WC_region ?_
              refine WL_rd (Rd_move rfl) rfl rfl rfl ?_
              refine WL_rd (Rd_move rfl) rfl rfl rfl ?_
              refine WL_rd (Rd_addN (j := 1) rfl rfl) rfl rfl rfl ?_
              refine WL_rd (Rd_move rfl) rfl rfl rfl ?_
              refine WL_rd (Rd_move rfl) rfl rfl rfl ?_
              refine WL_rd (Rd_index_sv k rfl rfl ud22 sz23 (hA := hS) (hi := by omega)) rfl rfl rfl ?_
              refine WL_rd (Rd_load_sv (i := k) (j := 0) (u := sl pa pl.length pc) rfl tk23 (hA := hS) (hl := hpk)) rfl rfl rfl ?_
              refine WL_rd (Rd_len rfl rfl ud23) rfl rfl rfl ?_
              refine WL_rd (Rd_move rfl) rfl rfl rfl ?_
              refine WL_rd (Rd_addN rfl rfl) rfl rfl rfl ?_
              refine WL_ac (Ac_call cf36 rfl (hs := mark_ct (k := k + 1) (i := pl.length + i'))) rfl rfl rfl ?_
              rintro _ _ ⟨⟨⟩, rfl, hA⟩
              simp only [List.cons_append, List.nil_append] at hA
              replace hA := hA.symm
              subst hA
              refine WL_ac (Ac_bs1 (xs := eU .u8 (mkB (k + 1) (pl.length + i'))) rfl ud23 zr5 sz5) rfl rfl rfl ?_
              rintro _ _ ⟨b62, rfl, rfl⟩
              refine WL_ac (Ac_apk1 (l := mks (mkB (k + 1)) 0 pl.length) (l' := mks (mkB (k + 1)) 0 (pl.length + i')) (encU .u8 (w := 8)) (mkB (k + 1) (pl.length + i')) rfl rfl ud23 ud23 el5 (mks_pre _ _ _) (hlen := by rw [mks_len])) rfl rfl rfl ?_
              rintro _ _ ⟨a63, cap63, rfl, rfl⟩
              rw [mks_len, mks_one, Nat.add_assoc]
              refine WL_rd (Rd_assign rfl) rfl rfl rfl ?_
              refine WL_nil ?_
              refine Ps_next hK26 ?_
              refine WC_region ?_
              refine WL_rd (Rd_move rfl) rfl rfl rfl ?_
              refine WL_rd (Rd_addN (j := 1) rfl rfl) rfl rfl rfl ?_
              refine WL_rd (Rd_assign rfl) rfl rfl rfl ?_
              refine WL_nil ?_
              refine Ps_wk (by (try simp only [List.cons_append, List.nil_append]); repeat (first | with_reducible exact Wk.nil | refine Wk.cons (by first | rfl | (simp only [List.length_append, List.length_cons, List.length_nil, List.length_replicate, Nat.zero_add]; rfl) | (simp; done)) ?_)) (by (try simp only [List.cons_append, List.nil_append]); repeat (first | with_reducible exact Sub.refl | with_reducible exact Sub.nil | with_reducible refine Sub.cons (by repeat (first | with_reducible exact Ext.here | with_reducible apply Ext.there)) ?_ | with_reducible refine Sub.tail ?_)) (hK23 ⟨i' + 1, a63, cap63⟩ (by dsimp only; omega) (by dsimp only; omega))
            · try simp only [decide_eq_true_eq, decide_eq_false_iff_not, Bool.not_eq_true', Bool.not_eq_false', Bool.not_eq_true, Bool.not_eq_false, Int.not_lt, Int.not_le, Nat.not_lt, Nat.not_le, Decidable.not_not, ne_eq] at hc3
              obtain rfl : i' = 70 := by omega
              refine WC_fact (fun w h => apk_factsN (a := pa) (cap := pc) (a' := a') (cap' := c') (e := 1) (T := 5) (f := eU .u8 (w := 8)) (l := mks (mkB (k + 1)) 0 pl.length) (l' := mks (mkB (k + 1)) 0 (pl.length + 70)) h) (fun hqf => ?_)
              rw [mks_len] at hqf
              have hq1 : a' ≠ none := fun e => by have := congrArg List.length (hqf.1 e); rw [mks_len] at this; simp at this
              have hq2 : pl.length + 70 ≤ c' := hqf.2
              have hq3 : pa = none → pl.length = 0 := fun e => by have := congrArg List.length (hpf.1 e); rw [mks_len] at this; exact this
              have hq4 : pl.length ≤ pc := hpf.2
              rw [show apk pa pc a' c' 1 5 (eU .u8 (w := 8)) (mks (mkB (k + 1)) 0 pl.length) (mks (mkB (k + 1)) 0 (pl.length + 70)) = FQB 5 ⟨pa, pc, a', c', pl.length, k⟩ from rfl]
              refine WC_snoc (FQB 5) qs ⟨pa, pc, a', c', pl.length, k⟩ ?_
              refine WC_exit ?_
              refine Ps_next hK21 ?_
              refine WC_region ?_
              refine WL_rd (Rd_move rfl) rfl rfl rfl ?_
              refine WL_rd (Rd_move rfl) rfl rfl rfl ?_
              refine WL_ac (Ac_bs1 (xs := [sl a' (pl.length + 70) c']) rfl ud22 zr23 sz23) rfl rfl rfl ?_
              rintro _ _ ⟨b66, rfl, rfl⟩
              refine WL_ac (Ac_append1 (f := eQI) encQI ⟨pa, pc, a', c', pl.length, k⟩ rfl rfl ud22 ud22 el23) rfl rfl rfl ?_
              rintro _ _ ⟨a67, cap67, rfl, rfl⟩
              refine WL_rd (Rd_assign rfl) rfl rfl rfl ?_
              refine WL_nil ?_
              refine Ps_next hK19 ?_
              refine WC_region ?_
              refine WL_rd (Rd_move rfl) rfl rfl rfl ?_
              refine WL_rd (Rd_addN (j := 1) rfl rfl) rfl rfl rfl ?_
              refine WL_rd (Rd_assign rfl) rfl rfl rfl ?_
              refine WL_nil ?_
              refine Ps_wk (by (try simp only [List.cons_append, List.nil_append]); repeat (first | with_reducible exact Wk.nil | refine Wk.cons (by first | rfl | (simp only [List.length_append, List.length_cons, List.length_nil, List.length_replicate, Nat.zero_add]; rfl) | (simp; done)) ?_)) (by (try simp only [List.cons_append, List.nil_append]); repeat (first | with_reducible exact Sub.refl | with_reducible exact Sub.nil | with_reducible refine Sub.cons (by repeat (first | with_reducible exact Ext.here | with_reducible apply Ext.there)) ?_ | with_reducible refine Sub.tail ?_)) (hK16 ⟨k + 1, qs ++ [⟨pa, pc, a', c', pl.length, k⟩], a67, cap67⟩ (⟨by (try dsimp only); omega, by (try dsimp only); rw [List.length_append, List.length_singleton]; omega, QOkB_snoc hQ (p := ⟨pa, pc, pl⟩) (by rw [hql]; exact hpk) (by (try dsimp only); omega) hq1 hq2 hq3 hq4 rfl rfl rfl⟩) (by (try dsimp only); omega))
        · try simp only [decide_eq_true_eq, decide_eq_false_iff_not, Bool.not_eq_true', Bool.not_eq_false', Bool.not_eq_true, Bool.not_eq_false, Int.not_lt, Int.not_le, Nat.not_lt, Nat.not_le, Decidable.not_not, ne_eq] at hc2
          obtain rfl : k = ps.length := by omega
          refine WC_exit ?_
          refine Ps_next hK14 ?_
          refine WC_seq fun K27 hK27 => ?_
          refine WC_sr fun K28 hK28 => ?_
          refine WL_rd (Rd_assign rfl) rfl rfl rfl ?_
          refine WL_end hK28 ?_
          refine WC_block ?_
          refine WC_loopK (σ := Nat) (fun k2 => [(9, .int .i64 ((k2 : Nat) : Int))]) (fun k2 => []) (fun k2 => k2 ≤ ps.length) (fun k2 => ps.length - k2) (0) [0, 5] (by repeat (first | exact Kep.nil | apply Kep.drop rfl | apply Kep.keep rfl)) (by (try dsimp only); repeat (first | with_reducible exact Gv.nil | (with_reducible apply Gv.cons; · (repeat (first | with_reducible exact Ext.here | with_reducible apply Ext.there))))) ?_ ?_ Sub.refl ?_
          · exact Nat.zero_le _
          · (try dsimp only); exact (Wk.cons (by first | rfl | (simp only [List.length_append, List.length_cons, List.length_nil, List.length_replicate, Nat.zero_add]; rfl) | (simp; done)) Wk.nil)
          · rintro k2 hk2 K29 hK29
            simp only [List.cons_append, List.nil_append]
            refine WC_seq fun K30 hK30 => ?_
            refine WC_sr fun K31 hK31 => ?_
            refine WL_rd (Rd_move rfl) rfl rfl rfl ?_
            refine WL_rd (Rd_move rfl) rfl rfl rfl ?_
            refine WL_rd (Rd_len_sv rfl rfl ud22) rfl rfl rfl ?_
            refine WL_rd (Rd_lssN rfl rfl) rfl rfl rfl ?_
            refine WL_end hK31 ?_
            refine WC_cond rfl (fun hc4 => ?_) (fun hc4 => ?_)
            · try simp only [decide_eq_true_eq, decide_eq_false_iff_not, Bool.not_eq_true', Bool.not_eq_false', Bool.not_eq_true, Bool.not_eq_false, Int.not_lt, Int.not_le, Nat.not_lt, Nat.not_le, Decidable.not_not, ne_eq] at hc4
              refine WC_some (a := go) (by repeat (first | with_reducible exact Has.here | with_reducible refine Has.there ?_)) (by omega) (fun gb hgb hcg => ?_)
              subst hgb
              obtain ⟨q, hq⟩ : ∃ q, qs[k2]? = some q := ⟨_, List.getElem?_eq_getElem (by omega)⟩
              obtain ⟨hqj, hqa, hqc, hqn, hqm, ⟨qa, qcp, ql⟩, hpk, hea, hec, hel⟩ := hQ k2 q hq
              dsimp only at hea hec hel
              have hpb := hb _ (List.mem_of_getElem? hpk)
              dsimp only at hpb
              have hsn := Sv.star (F := FQB 5) k2 hq (Sv_FQBn (T := 5) hqa hqc)
              have hse := Sv.star (F := FQB 5) k2 hq (Sv_FQBe (T := 5) hqn hqm)
              rw [hqj] at hsn hse
              have hse' := hse
              rw [hea, hec, hel] at hse'
              refine WC_skip ?_
              refine Ps_next hK30 ?_
              refine WC_seq fun K32 hK32 => ?_
              refine WC_block ?_
              refine WC_sr fun K33 hK33 => ?_
              refine WL_rd (Rd_assign rfl) rfl rfl rfl ?_
              refine WL_end hK33 ?_
              refine WC_block ?_
              refine WC_loopK (σ := Nat) (fun i2 => [(10, .int .i64 ((i2 : Nat) : Int))]) (fun i2 => []) (fun i2 => i2 ≤ q.n + 70) (fun i2 => q.n + 70 - i2) (0) [0, 5, 9, 68, 69, 70, 71, 72, 73] (by repeat (first | exact Kep.nil | apply Kep.drop rfl | apply Kep.keep rfl)) (by (try dsimp only); repeat (first | with_reducible exact Gv.nil | (with_reducible apply Gv.cons; · (repeat (first | with_reducible exact Ext.here | with_reducible apply Ext.there))))) ?_ ?_ Sub.refl ?_
              · exact Nat.zero_le _
              · (try dsimp only); exact (Wk.cons (by first | rfl | (simp only [List.length_append, List.length_cons, List.length_nil, List.length_replicate, Nat.zero_add]; rfl) | (simp; done)) Wk.nil)
              · rintro i2 hi2 K34 hK34
                simp only [List.cons_append, List.nil_append]
                refine WC_seq fun K35 hK35 => ?_
                refine WC_sr fun K36 hK36 => ?_
                refine WL_rd (Rd_move rfl) rfl rfl rfl ?_
                refine WL_rd (Rd_move rfl) rfl rfl rfl ?_
                refine WL_rd (Rd_move rfl) rfl rfl rfl ?_
                refine WL_rd (Rd_index k2 rfl rfl ud22 sz23 (hi := by omega)) rfl rfl rfl ?_
                refine WL_rd (Rd_load_arr (f := eQI) (i := k2) (j := 0) rfl tk23 (hl := hq)) rfl rfl rfl ?_
                refine WL_rd (Rd_len rfl rfl ud23) rfl rfl rfl ?_
                refine WL_rd (Rd_lssN rfl rfl) rfl rfl rfl ?_
                refine WL_end hK36 ?_
                refine WC_cond rfl (fun hc5 => ?_) (fun hc5 => ?_)
                · try simp only [decide_eq_true_eq, decide_eq_false_iff_not, Bool.not_eq_true', Bool.not_eq_false', Bool.not_eq_true, Bool.not_eq_false, Int.not_lt, Int.not_le, Nat.not_lt, Nat.not_le, Decidable.not_not, ne_eq] at hc5
                  refine WC_skip ?_
                  refine Ps_next hK35 ?_
                  refine WC_seq fun K37 hK37 => ?_
                  refine WC_block ?_
                  refine WC_sr fun K38 hK38 => ?_
                  refine WL_rd (Rd_move rfl) rfl rfl rfl ?_
                  refine WL_rd (Rd_addN (j := 1) rfl rfl) rfl rfl rfl ?_
                  refine WL_rd (Rd_move rfl) rfl rfl rfl ?_
                  refine WL_ac (Ac_call cf36 rfl (hs := mark_ct (k := k2 + 1) (i := i2))) rfl rfl rfl ?_
                  rintro _ _ ⟨⟨⟩, rfl, hA⟩
                  simp only [List.cons_append, List.nil_append] at hA
                  replace hA := hA.symm
                  subst hA
                  refine WL_rd (Rd_assign rfl) rfl rfl rfl ?_
                  refine WL_end hK38 ?_
                  refine WC_sr fun K39 hK39 => ?_
                  refine WL_rd (Rd_move rfl) rfl rfl rfl ?_
                  refine WL_rd (Rd_move rfl) rfl rfl rfl ?_
                  refine WL_rd (Rd_index k2 rfl rfl ud22 sz23 (hi := by omega)) rfl rfl rfl ?_
                  refine WL_rd (Rd_load_arr (f := eQI) (i := k2) (j := 0) rfl tk23 (hl := hq)) rfl rfl rfl ?_
                  refine WL_rd (Rd_move rfl) rfl rfl rfl ?_
                  refine WL_rd (Rd_index_sv i2 rfl rfl ud23 sz5 (hA := hsn) (hi := by rw [mks_len]; omega)) rfl rfl rfl ?_
                  refine WL_rd (Rd_load_sv (i := i2) (j := 0) rfl tk5 (hA := hsn) (hl := mks_at (by omega))) rfl rfl rfl ?_
                  refine WL_rd (Rd_move rfl) rfl rfl rfl ?_
                  refine WL_rd (Rd_isF (Rd_neqU rfl rfl)) rfl rfl rfl ?_
                  refine WL_rd (Rd_move rfl) rfl rfl rfl ?_
                  refine WL_rd (Rd_move rfl) rfl rfl rfl ?_
                  refine WL_rd (Rd_move rfl) rfl rfl rfl ?_
                  refine WL_rd (Rd_move rfl) rfl rfl rfl ?_
                  refine WL_rd (Rd_index_sv k2 rfl rfl ud22 sz23 (hA := hS) (hi := by omega)) rfl rfl rfl ?_
                  refine WL_rd (Rd_load_sv (i := k2) (j := 0) (u := sl qa ql.length qcp) rfl tk23 (hA := hS) (hl := hpk)) rfl rfl rfl ?_
                  refine WL_rd (Rd_len rfl rfl ud23) rfl rfl rfl ?_
                  refine WL_rd (Rd_lssN rfl rfl) rfl rfl rfl ?_
                  refine WL_rd (Rd_move rfl) rfl rfl rfl ?_
                  refine WL_bool 104 rfl (fun hg40 => ?_) (fun hg40 => ?_)
                  · try simp only [decide_eq_true_eq, decide_eq_false_iff_not, Bool.not_eq_true', Bool.not_eq_false', Bool.not_eq_true, Bool.not_eq_false, Int.not_lt, Int.not_le, Nat.not_lt, Nat.not_le, Decidable.not_not, ne_eq] at hg40
                    refine WL_rd (Rd_move rfl) rfl rfl rfl ?_
                    refine WL_rd (Rd_move rfl) rfl rfl rfl ?_
                    refine WL_rd (Rd_index_sv k2 rfl rfl ud22 sz23 (hA := hS) (hi := by omega)) rfl rfl rfl ?_
                    refine WL_rd (Rd_load_sv (i := k2) (j := 0) (u := sl qa ql.length qcp) rfl tk23 (hA := hS) (hl := hpk)) rfl rfl rfl ?_
                    refine WL_rd (Rd_move rfl) rfl rfl rfl ?_
                    refine WL_rd (Rd_index_sv i2 rfl rfl ud23 sz5 (hA := hse') (hi := by rw [mks_len]; omega)) rfl rfl rfl ?_
                    refine WL_rd (Rd_load_sv (i := i2) (j := 0) rfl tk5 (hA := hse') (hl := mks_at (by omega))) rfl rfl rfl ?_
                    refine WL_rd (Rd_move rfl) rfl rfl rfl ?_
                    refine WL_rd (Rd_isF (Rd_neqU rfl rfl)) rfl rfl rfl ?_
                    refine WL_rd (Rd_pickT rfl rfl) rfl rfl rfl ?_
                    refine WL_rd (Rd_pickF rfl rfl) rfl rfl rfl ?_
                    refine WL_end hK39 ?_
                    refine WC_condF rfl ?_
                    refine WC_skip ?_
                    refine Ps_next hK37 ?_
                    refine WC_region ?_
                    refine WL_rd (Rd_move rfl) rfl rfl rfl ?_
                    refine WL_rd (Rd_addN (j := 1) rfl rfl) rfl rfl rfl ?_
                    refine WL_rd (Rd_assign rfl) rfl rfl rfl ?_
                    refine WL_nil ?_
                    refine Ps_wk (by (try simp only [List.cons_append, List.nil_append]); repeat (first | with_reducible exact Wk.nil | refine Wk.cons (by first | rfl | (simp only [List.length_append, List.length_cons, List.length_nil, List.length_replicate, Nat.zero_add]; rfl) | (simp; done)) ?_)) (by (try simp only [List.cons_append, List.nil_append]); repeat (first | with_reducible exact Sub.refl | with_reducible exact Sub.nil | with_reducible refine Sub.cons (by repeat (first | with_reducible exact Ext.here | with_reducible apply Ext.there)) ?_ | with_reducible refine Sub.tail ?_)) (hK34 (i2 + 1) (by omega) (by omega))
                  · try simp only [decide_eq_true_eq, decide_eq_false_iff_not, Bool.not_eq_true', Bool.not_eq_false', Bool.not_eq_true, Bool.not_eq_false, Int.not_lt, Int.not_le, Nat.not_lt, Nat.not_le, Decidable.not_not, ne_eq] at hg40
                    refine WL_skip rfl rfl rfl ?_
                    refine WL_skip rfl rfl rfl ?_
                    refine WL_skip rfl rfl rfl ?_
                    refine WL_skip rfl rfl rfl ?_
                    refine WL_skip rfl rfl rfl ?_
                    refine WL_skip rfl rfl rfl ?_
                    refine WL_skip rfl rfl rfl ?_
                    refine WL_skip rfl rfl rfl ?_
                    refine WL_skip rfl rfl rfl ?_
                    refine WL_rd (Rd_pickF rfl rfl) rfl rfl rfl ?_
                    refine WL_rd (Rd_pickF rfl rfl) rfl rfl rfl ?_
                    refine WL_end hK39 ?_
                    refine WC_condF rfl ?_
                    refine WC_skip ?_
                    refine Ps_next hK37 ?_
                    refine WC_region ?_
                    refine WL_rd (Rd_move rfl) rfl rfl rfl ?_
                    refine WL_rd (Rd_addN (j := 1) rfl rfl) rfl rfl rfl ?_
                    refine WL_rd (Rd_assign rfl) rfl rfl rfl ?_
                    refine WL_nil ?_
                    refine Ps_wk (by (try simp only [List.cons_append, List.nil_append]); repeat (first | with_reducible exact Wk.nil | refine Wk.cons (by first | rfl | (simp only [List.length_append, List.length_cons, List.length_nil, List.length_replicate, Nat.zero_add]; rfl) | (simp; done)) ?_)) (by (try simp only [List.cons_append, List.nil_append]); repeat (first | with_reducible exact Sub.refl | with_reducible exact Sub.nil | with_reducible refine Sub.cons (by repeat (first | with_reducible exact Ext.here | with_reducible apply Ext.there)) ?_ | with_reducible refine Sub.tail ?_)) (hK34 (i2 + 1) (by omega) (by omega))
                · try simp only [decide_eq_true_eq, decide_eq_false_iff_not, Bool.not_eq_true', Bool.not_eq_false', Bool.not_eq_true, Bool.not_eq_false, Int.not_lt, Int.not_le, Nat.not_lt, Nat.not_le, Decidable.not_not, ne_eq] at hc5
                  refine WC_exit ?_
                  refine Ps_next hK32 ?_
                  refine WC_region ?_
                  refine WL_rd (Rd_move rfl) rfl rfl rfl ?_
                  refine WL_rd (Rd_addN (j := 1) rfl rfl) rfl rfl rfl ?_
                  refine WL_rd (Rd_assign rfl) rfl rfl rfl ?_
                  refine WL_nil ?_
                  refine Ps_wk (by (try simp only [List.cons_append, List.nil_append]); repeat (first | with_reducible exact Wk.nil | refine Wk.cons (by first | rfl | (simp only [List.length_append, List.length_cons, List.length_nil, List.length_replicate, Nat.zero_add]; rfl) | (simp; done)) ?_)) (by (try simp only [List.cons_append, List.nil_append]); repeat (first | with_reducible exact Sub.refl | with_reducible exact Sub.nil | with_reducible refine Sub.cons (by repeat (first | with_reducible exact Ext.here | with_reducible apply Ext.there)) ?_ | with_reducible refine Sub.tail ?_)) (hK29 (k2 + 1) (by omega) (by omega))
            · try simp only [decide_eq_true_eq, decide_eq_false_iff_not, Bool.not_eq_true', Bool.not_eq_false', Bool.not_eq_true, Bool.not_eq_false, Int.not_lt, Int.not_le, Nat.not_lt, Nat.not_le, Decidable.not_not, ne_eq] at hc4
              refine WC_exit ?_
              refine Ps_next hK27 ?_
              refine WC_sr fun K41 hK41 => ?_
              refine WL_rd (Rd_assign rfl) rfl rfl rfl ?_
              refine WL_end hK41 ?_
              refine WC_ret ?_
              exact hret.go () (Rs1 rfl rfl)
end Go.Proofs.Ytlcafifjhilleaa
