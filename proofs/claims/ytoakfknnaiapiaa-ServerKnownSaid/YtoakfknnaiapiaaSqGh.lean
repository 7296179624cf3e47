/-
  Contracts of functions that the claim reaches, or the logic and the plain laws that they rest on, or the row over them. (Conditions: none beyond the statement.)
-/
import Derived.Test.YtoakfknnaiapiaaSqGg
import Derived.Test.YtoakfknnaiapiaaSvLB
import Derived.Test.YtoakfknnaiapiaaSqGe
import Derived.Test.YtoakfknnaiapiaaSqGd
import Derived.Test.YtoakfknnaiapiaaLibC
set_option linter.all false
namespace Go.Proofs.Ytoakfknnaiapiaa
open Go.RowKit Go.SL Go.ShM Go.SvM Go.Proofs Go.Shelf Go.Sort Go.Lib
set_option maxHeartbeats 1000000
set_option maxRecDepth 20000
set_option linter.all false
theorem cf79 : cfn Try.prog 79 = true := by kernel_rfl
theorem cf80 : cfn Try.prog 80 = true := by kernel_rfl
theorem cf81 : cfn Try.prog 81 = true := by kernel_rfl
theorem cf82 : cfn Try.prog 82 = true := by kernel_rfl
theorem cf83 : cfn Try.prog 83 = true := by kernel_rfl
theorem cf85 : cfn Try.prog 85 = true := by kernel_rfl
theorem cf86 : cfn Try.prog 86 = true := by kernel_rfl
theorem pdqS_ct {ga cap n k a b : Nat} {l : List B32} {lim : Int} (hl : l.length = n) (hn : n ≤ 1000) (hab : a ≤ b) (hb : b ≤ n) (hlb : LB l a b) (hk : b - a = k) (hlim : 0 ≤ lim ∧ lim ≤ 100) (ih : ∀ (a b : Nat) (l : List B32) (lim : Int), b - a < k → a ≤ b → b ≤ n → l.length = n → LB l a b → (0 ≤ lim ∧ lim ≤ 100) → Ct Try.prog 66 [sl (some ga) n cap, .int .i64 ((a : Nat) : Int), .int .i64 ((b : Nat) : Int), .int .i64 lim] [arr (some ga) cap 1 25 (eU .u32 (w := 32)) l] (fun _ : {m : List B32 // SwR a b l m ∧ ordS m a b} => .tuple #[]) (fun g => [arr (some ga) cap 1 25 (eU .u32 (w := 32)) g.1])) : Ct Try.prog 66 [sl (some ga) n cap, .int .i64 ((a : Nat) : Int), .int .i64 ((b : Nat) : Int), .int .i64 lim] [arr (some ga) cap 1 25 (eU .u32 (w := 32)) l] (fun g : {m : List B32 // SwR a b l m ∧ ordS m a b} => .tuple #[]) (fun g => [arr (some ga) cap 1 25 (eU .u32 (w := 32)) g.1]) := by
 refine Ct_body (n := 134) Try.func66 rfl rfl rfl fun F w0 Q hret hnorm hp => ?_
 change WC _ _ _ _ _ _ _ (_ :: F)
 refine WC_sr fun K1 hK1 => ?_
 refine WL_r (Rd_assign rfl) rfl ?_
 refine WL_end hK1 ?_
 refine WC_sr fun K2 hK2 => ?_
 refine WL_r (Rd_assign rfl) rfl ?_
 refine WL_end hK2 ?_
 refine WC_block ?_
 refine WC_loopK (σ := Nat × Nat × Int × Bool × Bool × (List B32)) (fun ⟨c, d, lm, wb, wp, w⟩ => [(1, .int .i64 ((c : Nat) : Int)), (2, .int .i64 ((d : Nat) : Int)), (3, .int .i64 lm), (8, .bool wb), (9, .bool wp)]) (fun ⟨c, d, lm, wb, wp, w⟩ => [arr (some ga) cap 1 25 (eU .u32 (w := 32)) w]) (fun ⟨c, d, lm, wb, wp, w⟩ => (a ≤ c ∧ c ≤ d ∧ d ≤ b) ∧ (0 ≤ lm ∧ lm ≤ 100) ∧ SwR a b l w ∧ ordO w a b c d ∧ w.length = n) (fun ⟨c, d, lm, wb, wp, w⟩ => d - c) ⟨a, b, lim, true, true, l⟩ [0] kpA (by (try dsimp only); repeat (first | with_reducible exact Gv.nil | (with_reducible apply Gv.cons; · (repeat (first | with_reducible exact Ext.here | with_reducible apply Ext.there))))) ?_ ?_ Sub.refl ?_
 ·exact ⟨by omega, hlim, .refl, ordO_nil, hl⟩
 ·(try dsimp only); exact (Wk.cons lkA (Wk.cons lkA (Wk.cons lkA (Wk.cons lkA (Wk.cons lkA Wk.nil)))))
 ·rintro ⟨c, d, lm, wb, wp, w⟩ ⟨hcd, hlm0, hsw, hor, hwl⟩ K3 hK3
  simp only [List.cons_append, List.nil_append]
  refine WC_block ?_
  refine WC_sr fun K4 hK4 => ?_
  refine WL_r (Rd_move rfl) rfl ?_
  refine WL_r (Rd_move rfl) rfl ?_
  refine WL_r (Rd_subN rfl rfl) rfl ?_
  refine WL_r (Rd_assign rfl) rfl ?_
  refine WL_end hK4 ?_
  refine WC_seq fun K5 hK5 => ?_
  refine WC_sr fun K6 hK6 => ?_
  refine WL_r (Rd_move rfl) rfl ?_
  refine WL_r (Rd_leqN (j := 12) rfl rfl) rfl ?_
  refine WL_end hK6 ?_
  refine WC_cond rfl (fun hc0 => ?_) (fun hc0 => ?_)
  ·try simp only [dz, ne_eq] at hc0
   refine WC_sr fun K7 hK7 => ?_
   refine WL_r (Rd_move rfl) rfl ?_
   refine WL_r (Rd_move rfl) rfl ?_
   refine WL_r (Rd_move rfl) rfl ?_
   refine WL_ac (Ac_call cf78 rfl (hs := insR_ct (l := w) (a := c) (b := d) hwl hn (by omega) (by omega))) rfl rfl rfl ?_
   rintro _ _ ⟨⟨m, hsm, hom⟩, rfl, hA⟩
   simp only [List.cons_append, List.nil_append] at hA
   replace hA := hA.symm
   subst hA
   refine WL_end hK7 ?_
   refine WC_ret ?_
   exact hret.go ⟨m, hsw.trans ((hsm).wide hcd.1 hcd.2.2), ordO_fin (ordO_sw hor hsm hcd.1 hcd.2.2 (by omega)) hom⟩ (Rs0 rfl)
  ·try simp only [dz, ne_eq] at hc0
   refine WC_skip ?_
   refine Ps_next hK5 ?_
   refine WC_seq fun K8 hK8 => ?_
   refine WC_sr fun K9 hK9 => ?_
   refine WL_r (Rd_move rfl) rfl ?_
   refine WL_r (Rd_eql rfl rfl) rfl ?_
   refine WL_end hK9 ?_
   refine WC_cond rfl (fun hc1 => ?_) (fun hc1 => ?_)
   ·try simp only [dz, ne_eq] at hc1
    refine WC_sr fun K10 hK10 => ?_
    refine WL_r (Rd_move rfl) rfl ?_
    refine WL_r (Rd_move rfl) rfl ?_
    refine WL_r (Rd_move rfl) rfl ?_
    refine WL_ac (Ac_call cf79 rfl (hs := heap_ct (l := w) (a := c) (b := d) hwl hn (by omega) (by omega))) rfl rfl rfl ?_
    rintro _ _ ⟨⟨m, hsm, hom⟩, rfl, hA⟩
    simp only [List.cons_append, List.nil_append] at hA
    replace hA := hA.symm
    subst hA
    refine WL_end hK10 ?_
    refine WC_ret ?_
    exact hret.go ⟨m, hsw.trans ((hsm).wide hcd.1 hcd.2.2), ordO_fin (ordO_sw hor hsm hcd.1 hcd.2.2 (by omega)) hom⟩ (Rs0 rfl)
   ·try simp only [dz, ne_eq] at hc1
    have hlc := LB_in hor (hlb.sw hsw (by omega)) hcd.1 hcd.2.2
    refine WC_skip ?_
    refine Ps_next hK8 ?_
    refine WC_seq fun K11 hK11 => ?_
    refine WC_sr fun K12 hK12 => ?_
    refine WL_r (Rd_move rfl) rfl ?_
    refine WL_r (Rd_not rfl) rfl ?_
    refine WL_end hK12 ?_
    refine WC_meet (B0 := [arr (some ga) cap 1 25 (eU .u32 (w := 32)) w]) (σ := Int × (List B32)) (fun ⟨lm1, w1⟩ => [(3, .int .i64 lm1)]) (fun ⟨lm1, w1⟩ => [arr (some ga) cap 1 25 (eU .u32 (w := 32)) w1]) (fun ⟨lm1, w1⟩ => (0 ≤ lm1 ∧ lm1 ≤ 100) ∧ SwR c d w w1) [0, 1, 2, 8, 9, 10, 11, 12, 13, 14, 15, 16, 17, 18, 19, 20, 21, 22, 23, 24, 25, 26, 28, 29, 30, 31, 32, 34, 35, 42, 43, 44, 45, 46, 47, 48, 49, 50, 51, 52, 53, 55, 56, 57, 58, 59, 60, 61, 62, 63, 64, 65, 66, 67, 68, 69, 70, 71, 72, 73, 74, 75, 76, 77, 78, 79, 80, 81, 82, 83, 84, 85, 86, 87, 88, 89, 90, 91, 92, 93, 94, 95, 96, 97, 98, 99, 100, 101, 102, 103, 104, 105, 106, 107, 108, 109, 110, 111, 112, 113, 114, 115, 116, 117, 118, 119, 120, 122, 123, 124, 125, 126, 127, 128, 129, 130, 131, 133] kpA (by (try dsimp only); repeat (first | with_reducible exact Gv.nil | (with_reducible apply Gv.cons; · (repeat (first | with_reducible exact Ext.here | with_reducible apply Ext.there))))) ?_ ?_
    ·intro hK13
     refine WC_cond rfl (fun hc2 => ?_) (fun hc2 => ?_)
     ·try simp only [dz, ne_eq] at hc2
      refine WC_sr fun K14 hK14 => ?_
      refine WL_r (Rd_move rfl) rfl ?_
      refine WL_r (Rd_move rfl) rfl ?_
      refine WL_r (Rd_move rfl) rfl ?_
      refine WL_ac (Ac_call cf80 rfl (hs := brk_ct (l := w) (a := c) (b := d) hwl hn (by omega) (by omega))) rfl rfl rfl ?_
      rintro _ _ ⟨⟨m, hsm⟩, rfl, hA⟩
      simp only [List.cons_append, List.nil_append] at hA
      replace hA := hA.symm
      subst hA
      refine WL_end hK14 ?_
      refine WC_region ?_
      refine WL_r (Rd_move rfl) rfl ?_
      refine WL_r (Rd_sub' rfl rfl (wr64 rfl (by omega) (by omega))) rfl ?_
      refine WL_r (Rd_assign rfl) rfl ?_
      refine WL_nil ?_
      refine Ps_wkA (hK13 ⟨lm - 1, m⟩ (⟨by (try dsimp only); omega, hsm⟩))
     ·try simp only [dz, ne_eq] at hc2
      refine WC_skip ?_
      refine Ps_wkA (hK13 ⟨lm, w⟩ (⟨hlm0, .refl⟩))
    ·rintro ⟨lm1, w1⟩ ⟨hl1, hs1⟩
     simp only [List.cons_append, List.nil_append]
     refine Ps_next hK11 ?_
     refine WC_sr fun K15 hK15 => ?_
     refine WL_r (Rd_move rfl) rfl ?_
     refine WL_r (Rd_move rfl) rfl ?_
     refine WL_r (Rd_move rfl) rfl ?_
     refine WL_ac (Ac_call cf81 rfl (hs := piv_ct (l := w1) (a := c) (b := d) (by rw [hs1.len]; exact hwl) hn (by omega) (by omega))) rfl rfl rfl ?_
     rintro _ _ ⟨⟨⟨pv, ht⟩, hpv, hht⟩, rfl, hA⟩
     simp only [List.cons_append, List.nil_append] at hA
     replace hA := hA.symm
     subst hA
     dsimp only at hpv hht ⊢
     refine WL_r (Rd_move rfl) rfl ?_
     refine WL_r (Rd_ext0 rfl) rfl ?_
     refine WL_r (Rd_ext1 rfl) rfl ?_
     refine WL_r (Rd_assign rfl) rfl ?_
     refine WL_r (Rd_assign rfl) rfl ?_
     refine WL_end hK15 ?_
     refine WC_seq fun K16 hK16 => ?_
     refine WC_sr fun K17 hK17 => ?_
     refine WL_r (Rd_move rfl) rfl ?_
     refine WL_r (Rd_eqlN (j := 2) rfl rfl) rfl ?_
     refine WL_end hK17 ?_
     refine WC_meet (B0 := [arr (some ga) cap 1 25 (eU .u32 (w := 32)) w1]) (σ := Nat × Nat × (List B32)) (fun ⟨p, ht2, w2⟩ => [(11, .int .i64 ((p : Nat) : Int)), (12, .int .i64 ((ht2 : Nat) : Int))]) (fun ⟨p, ht2, w2⟩ => [arr (some ga) cap 1 25 (eU .u32 (w := 32)) w2]) (fun ⟨p, ht2, w2⟩ => (c ≤ p ∧ p < d) ∧ SwR c d w w2) [0, 1, 2, 3, 8, 9, 10, 13, 14, 15, 16, 17, 18, 19, 20, 21, 22, 23, 24, 25, 26, 28, 29, 30, 31, 32, 34, 35, 36, 37, 38, 40, 41, 42, 43, 44, 45, 46, 47, 48, 49, 50, 61, 62, 63, 64, 65, 66, 67, 68, 69, 70, 71, 72, 73, 74, 75, 76, 77, 78, 79, 80, 81, 82, 83, 84, 85, 86, 87, 88, 89, 90, 91, 92, 93, 94, 95, 96, 97, 98, 99, 100, 101, 102, 103, 104, 105, 106, 107, 108, 109, 110, 111, 112, 113, 114, 115, 116, 117, 118, 119, 120, 122, 123, 124, 125, 126, 127, 128, 129, 130, 131, 133] kpA (by (try dsimp only); repeat (first | with_reducible exact Gv.nil | (with_reducible apply Gv.cons; · (repeat (first | with_reducible exact Ext.here | with_reducible apply Ext.there))))) ?_ ?_
     ·intro hK18
      refine WC_cond rfl (fun hc3 => ?_) (fun hc3 => ?_)
      ·try simp only [dz, ne_eq] at hc3
       refine WC_sr fun K19 hK19 => ?_
       refine WL_r (Rd_move rfl) rfl ?_
       refine WL_r (Rd_move rfl) rfl ?_
       refine WL_r (Rd_move rfl) rfl ?_
       refine WL_ac (Ac_call cf82 rfl (hs := revR_ct (l := w1) (a := c) (b := d) (by rw [hs1.len]; exact hwl) hn (by omega) (by omega))) rfl rfl rfl ?_
       rintro _ _ ⟨⟨m, hsm⟩, rfl, hA⟩
       simp only [List.cons_append, List.nil_append] at hA
       replace hA := hA.symm
       subst hA
       refine WL_end hK19 ?_
       refine WC_sr fun K20 hK20 => ?_
       refine WL_r (Rd_move rfl) rfl ?_
       refine WL_r (Rd_subN (j := 1) rfl rfl) rfl ?_
       refine WL_r (Rd_move rfl) rfl ?_
       refine WL_r (Rd_move rfl) rfl ?_
       refine WL_r (Rd_subN rfl rfl) rfl ?_
       refine WL_r (Rd_subN rfl rfl) rfl ?_
       refine WL_r (Rd_assign rfl) rfl ?_
       refine WL_end hK20 ?_
       refine WC_region ?_
       refine WL_r (Rd_assign rfl) rfl ?_
       refine WL_nil ?_
       refine Ps_wkA (hK18 ⟨d - 1 - (pv - c), 1, m⟩ (⟨by (try dsimp only); omega, hs1.trans hsm⟩))
      ·try simp only [dz, ne_eq] at hc3
       refine WC_skip ?_
       refine Ps_wkA (hK18 ⟨pv, ht, w1⟩ (⟨hpv, hs1⟩))
     ·rintro ⟨p, ht2, w2⟩ ⟨hp2, hs2⟩
      simp only [List.cons_append, List.nil_append]
      refine Ps_next hK16 ?_
      refine WC_seq fun K21 hK21 => ?_
      refine WC_sr fun K22 hK22 => ?_
      refine WL_r (Rd_move rfl) rfl ?_
      refine WL_r (Rd_move rfl) rfl ?_
      refine WL_bool 62 rfl (fun hg23 => ?_) (fun hg23 => ?_)
      ·try simp only [dz, ne_eq] at hg23
       refine WL_r (Rd_move rfl) rfl ?_
       refine WL_r (Rd_pickT rfl rfl) rfl ?_
       refine WL_r (Rd_move rfl) rfl ?_
       refine WL_bool 65 rfl (fun hg24 => ?_) (fun hg24 => ?_)
       ·try simp only [dz, ne_eq] at hg24
        refine WL_r (Rd_move rfl) rfl ?_
        refine WL_r (Rd_eqlN (j := 1) rfl rfl) rfl ?_
        refine WL_r (Rd_pickT rfl rfl) rfl ?_
        refine WL_end hK22 ?_
        refine WC_meet (B0 := [arr (some ga) cap 1 25 (eU .u32 (w := 32)) w2]) (σ := (List B32)) (fun w3 => []) (fun w3 => [arr (some ga) cap 1 25 (eU .u32 (w := 32)) w3]) (fun w3 => SwR c d w w3) [0, 1, 2, 3, 8, 9, 10, 11, 12, 13, 14, 15, 16, 17, 18, 19, 20, 21, 22, 23, 24, 25, 26, 28, 29, 30, 31, 32, 34, 35, 36, 37, 38, 40, 41, 42, 43, 44, 45, 46, 47, 48, 49, 50, 51, 52, 53, 55, 56, 57, 58, 59, 60, 61, 62, 63, 64, 65, 66, 67, 68, 73, 74, 75, 76, 77, 78, 79, 80, 81, 82, 83, 84, 85, 86, 87, 88, 89, 90, 91, 92, 93, 94, 95, 96, 97, 98, 99, 100, 101, 102, 103, 104, 105, 106, 107, 108, 109, 110, 111, 112, 113, 114, 115, 116, 117, 118, 119, 120, 122, 123, 124, 125, 126, 127, 128, 129, 130, 131, 133] kpA (by (try dsimp only); repeat (first | with_reducible exact Gv.nil | (with_reducible apply Gv.cons; · (repeat (first | with_reducible exact Ext.here | with_reducible apply Ext.there))))) ?_ ?_
        ·intro hK25
         refine WC_cond rfl (fun hc4 => ?_) (fun hc4 => ?_)
         ·try simp only [dz, ne_eq] at hc4
          refine WC_sr fun K26 hK26 => ?_
          refine WL_r (Rd_move rfl) rfl ?_
          refine WL_r (Rd_move rfl) rfl ?_
          refine WL_r (Rd_move rfl) rfl ?_
          refine WL_ac (Ac_call cf83 rfl (hs := pins_ct (l := w2) (a := c) (b := d) (by rw [hs2.len]; exact hwl) hn (by omega) (by omega) (hlc.sw hs2 (by omega)))) rfl rfl rfl ?_
          rintro _ _ ⟨⟨⟨ok, m⟩, hsm, hom⟩, rfl, hA⟩
          simp only [List.cons_append, List.nil_append] at hA
          replace hA := hA.symm
          subst hA
          dsimp only at hsm hom ⊢
          refine WL_end hK26 ?_
          refine WC_cond rfl (fun hc5 => ?_) (fun hc5 => ?_)
          ·try simp only [dz, ne_eq] at hc5
           refine WC_ret ?_
           exact hret.go ⟨m, hsw.trans ((hs2.trans hsm).wide hcd.1 hcd.2.2), ordO_fin (ordO_sw hor (hs2.trans hsm) hcd.1 hcd.2.2 (by omega)) (hom hc5)⟩ (Rs0 rfl)
          ·try simp only [dz, ne_eq] at hc5
           refine WC_skip ?_
           refine Ps_wkA (hK25 (m) (hs2.trans hsm))
         ·try simp only [dz, ne_eq] at hc4
          refine WC_skip ?_
          refine Ps_wkA (hK25 (w2) (hs2))
        ·rintro w3 hs3
         simp only [List.cons_append, List.nil_append]
         have hw3l : w3.length = n := by rw [hs3.len]; exact hwl
         refine Ps_next hK21 ?_
         refine WC_seq fun K27 hK27 => ?_
         refine WC_seq fun K28 hK28 => ?_
         refine WC_draw mix [arr (some ga) cap 1 25 (eU .u32 (w := 32)) w3] (fun i => ([2, 2, 2, 2, 2, 2, 2, 2, 2, 2, 2, 2, 1, 2, 2] : List Nat).getD i 0) ?_
         refine WJ_tp 0 rfl (Rd_move rfl) rfl (hp _ _) ?_
         refine WJ_tp 1 rfl (Rd_gtrN (j := 0) rfl rfl) rfl (hp _ _) ?_
         refine WJ_tp 2 rfl (Rd_move rfl) rfl (hp _ _) ?_
         refine WJ_bool 75 rfl (fun hg29 => ?_) (fun hg29 => ?_)
         ·try simp only [dz, ne_eq] at hg29
          refine WJ_tp 3 rfl (Rd_move rfl) rfl (hp _ _) ?_
          refine WJ_tp 4 rfl (Rd_move rfl) rfl (hp _ _) ?_
          refine WJ_tp 5 rfl (Rd_subN (j := 1) rfl rfl) rfl (hp _ _) ?_
          refine WJ_tp 6 rfl (Rd_index (c - 1) rfl rfl ud99 sz25 (hj := by omega)) rfl (hp _ _) ?_
          refine WJ_tk 7 (Rd_load_arr (i := c - 1) (j := 0) rfl tk25 (hl := getA (l := w3) (by omega))) hp ?_ rfl (by kernel_rfl) rfl rfl rfl
          refine WJ_tp 8 rfl (Rd_move rfl) rfl (hp _ _) ?_
          refine WJ_tp 9 rfl (Rd_move rfl) rfl (hp _ _) ?_
          refine WJ_tp 10 rfl (Rd_index (p) rfl rfl ud99 sz25 (hj := by omega)) rfl (hp _ _) ?_
          refine WJ_tk 11 (Rd_load_arr (i := p) (j := 0) rfl tk25 (hl := getA (l := w3) (by omega))) hp ?_ rfl (by kernel_rfl) rfl rfl rfl
          refine WJ_all (rs := [12]) (by kernel_rfl) rfl ?_
          refine WI_one ?_
          refine WI_ac rfl (Ac_call cf84 rfl (hs := lessW_ct (x := w3.getD (c - 1) 0#32) (y := w3.getD (p) 0#32))) rfl rfl rfl rfl ?_
          rintro _ _ ⟨⟨⟩, rfl, hA⟩
          simp only [List.cons_append, List.nil_append] at hA
          replace hA := hA.symm
          subst hA
          refine ⟨(fun _ => subA), ?_⟩
          refine WJ_tp 13 rfl (Rd_not rfl) rfl (hp _ _) ?_
          refine WJ_tp 14 rfl (Rd_pickT rfl rfl) rfl (hp _ _) ?_
          refine WJ_done (by kernel_rfl) ?_
          refine Ps_next hK28 ?_
          refine WC_cond rfl (fun hc6 => ?_) (fun hc6 => ?_)
          ·try simp only [dz, ne_eq] at hc6
           have hle : vA w3 p ≤ vA w3 (c - 1) := by unfold vA at *; omega
           have hc0 : 0 < c := by omega
           refine WC_sr fun K30 hK30 => ?_
           refine WL_r (Rd_move rfl) rfl ?_
           refine WL_r (Rd_move rfl) rfl ?_
           refine WL_r (Rd_move rfl) rfl ?_
           refine WL_r (Rd_move rfl) rfl ?_
           refine WL_ac (Ac_call cf85 rfl (hs := partE_ct (l := w3) (a := c) (b := d) (p := p) (by rw [hs3.len]; exact hwl) hn (by omega) (by omega) (by omega))) rfl rfl rfl ?_
           rintro _ _ ⟨⟨⟨mid, m⟩, hsm, hmid, hme⟩, rfl, hA⟩
           simp only [List.cons_append, List.nil_append] at hA
           replace hA := hA.symm
           subst hA
           dsimp only at hsm hmid hme ⊢
           refine WL_r (Rd_assign rfl) rfl ?_
           refine WL_end hK30 ?_
           refine WC_sr fun K31 hK31 => ?_
           refine WL_r (Rd_move rfl) rfl ?_
           refine WL_r (Rd_assign rfl) rfl ?_
           refine WL_end hK31 ?_
           refine WC_exit ?_
           refine Ps_wkA (hK3 ⟨mid, d, lm1, wb, wp, m⟩ (⟨by (try dsimp only); omega, hl1, hsw.trans ((hs3.trans hsm).wide hcd.1 hcd.2.2), ordO_eqs (v := vA w3 p) (ordO_sw hor (hs3.trans hsm) hcd.1 hcd.2.2 (by omega)) (hlc.sw (hs3.trans hsm) (by omega)) hc0 (by rw [hsm.out (k := c - 1) (by rw [hs3.len]; omega) (.inl (by omega))]; exact hle) hme hcd.1 (by omega) hcd.2.2, by (try dsimp only); rw [hsm.len, hs3.len]; exact hwl⟩) (by (try dsimp only); omega))
          ·try simp only [dz, ne_eq] at hc6
           refine WC_skip ?_
           refine Ps_next hK27 ?_
           refine WC_sr fun K32 hK32 => ?_
           refine WL_r (Rd_move rfl) rfl ?_
           refine WL_r (Rd_move rfl) rfl ?_
           refine WL_r (Rd_move rfl) rfl ?_
           refine WL_r (Rd_move rfl) rfl ?_
           refine WL_ac (Ac_call cf86 rfl (hs := part_ct (l := w3) (a := c) (b := d) (p := p) (by rw [hs3.len]; exact hwl) hn (by omega) (by omega) (by omega))) rfl rfl rfl ?_
           rintro _ _ ⟨⟨⟨mid, alr, m⟩, hsm, hcut⟩, rfl, hA⟩
           simp only [List.cons_append, List.nil_append] at hA
           replace hA := hA.symm
           subst hA
           dsimp only at hsm hcut ⊢
           have hml : m.length = n := by rw [hsm.len, hs3.len]; exact hwl
           have hm1 := hcut.lo
           have hm2 := hcut.hi
           have hom := ordO_sw hor (hs3.trans hsm) hcd.1 hcd.2.2 (by omega)
           have hlm := hlc.sw (hs3.trans hsm) (by omega)
           refine WL_r (Rd_move rfl) rfl ?_
           refine WL_r (Rd_ext0 rfl) rfl ?_
           refine WL_r (Rd_ext1 rfl) rfl ?_
           refine WL_r (Rd_assign rfl) rfl ?_
           refine WL_r (Rd_assign rfl) rfl ?_
           refine WL_end hK32 ?_
           refine WC_sr fun K33 hK33 => ?_
           refine WL_r (Rd_move rfl) rfl ?_
           refine WL_r (Rd_assign rfl) rfl ?_
           refine WL_end hK33 ?_
           refine WC_sr fun K34 hK34 => ?_
           refine WL_r (Rd_move rfl) rfl ?_
           refine WL_r (Rd_move rfl) rfl ?_
           refine WL_r (Rd_subN rfl rfl) rfl ?_
           refine WL_r (Rd_move rfl) rfl ?_
           refine WL_r (Rd_move rfl) rfl ?_
           refine WL_r (Rd_subN rfl rfl) rfl ?_
           refine WL_r (Rd_assign rfl) rfl ?_
           refine WL_r (Rd_assign rfl) rfl ?_
           refine WL_end hK34 ?_
           refine WC_sr fun K35 hK35 => ?_
           refine WL_r (Rd_move rfl) rfl ?_
           refine WL_r (Rd_quoN (j := 8) rfl rfl) rfl ?_
           refine WL_r (Rd_assign rfl) rfl ?_
           refine WL_end hK35 ?_
           refine WC_sr fun K36 hK36 => ?_
           refine WL_r (Rd_move rfl) rfl ?_
           refine WL_r (Rd_move rfl) rfl ?_
           refine WL_r (Rd_lssN rfl rfl) rfl ?_
           refine WL_end hK36 ?_
           refine WC_cond rfl (fun hc7 => ?_) (fun hc7 => ?_)
           ·try simp only [dz, ne_eq] at hc7
            refine WC_sr fun K37 hK37 => ?_
            refine WL_r (Rd_move rfl) rfl ?_
            refine WL_r (Rd_move rfl) rfl ?_
            refine WL_r (Rd_geqN rfl rfl) rfl ?_
            refine WL_r (Rd_assign rfl) rfl ?_
            refine WL_end hK37 ?_
            refine WC_sr fun K38 hK38 => ?_
            refine WL_r (Rd_move rfl) rfl ?_
            refine WL_r (Rd_move rfl) rfl ?_
            refine WL_r (Rd_move rfl) rfl ?_
            refine WL_r (Rd_move rfl) rfl ?_
            refine WL_ac (Ac_call cf66 rfl (hs := ih c mid m lm1 (by omega) (by omega) (by omega) hml (hlm.sub (by omega)) hl1)) rfl rfl rfl ?_
            rintro _ _ ⟨⟨m2, hsm2, hom2⟩, rfl, hA⟩
            simp only [List.cons_append, List.nil_append] at hA
            replace hA := hA.symm
            subst hA
            refine WL_end hK38 ?_
            refine WC_region ?_
            refine WL_r (Rd_move rfl) rfl ?_
            refine WL_r (Rd_addN (j := 1) rfl rfl) rfl ?_
            refine WL_r (Rd_assign rfl) rfl ?_
            refine WL_nil ?_
            refine Ps_wkA (hK3 ⟨mid + 1, d, lm1, decide ((d - c) / 8 ≤ mid - c), alr, m2⟩ (⟨by (try dsimp only); omega, hl1, hsw.trans (((hs3.trans hsm).trans (hsm2.wide (Nat.le_refl _) (by omega))).wide hcd.1 hcd.2.2), hcut.left hom hsm2 hom2 hcd.1 hcd.2.2 (by omega), by (try dsimp only); rw [hsm2.len]; exact hml⟩) (by (try dsimp only); omega))
           ·try simp only [dz, ne_eq] at hc7
            refine WC_sr fun K39 hK39 => ?_
            refine WL_r (Rd_move rfl) rfl ?_
            refine WL_r (Rd_move rfl) rfl ?_
            refine WL_r (Rd_geqN rfl rfl) rfl ?_
            refine WL_r (Rd_assign rfl) rfl ?_
            refine WL_end hK39 ?_
            refine WC_sr fun K40 hK40 => ?_
            refine WL_r (Rd_move rfl) rfl ?_
            refine WL_r (Rd_move rfl) rfl ?_
            refine WL_r (Rd_addN (j := 1) rfl rfl) rfl ?_
            refine WL_r (Rd_move rfl) rfl ?_
            refine WL_r (Rd_move rfl) rfl ?_
            refine WL_ac (Ac_call cf66 rfl (hs := ih (mid + 1) d m lm1 (by omega) (by omega) (by omega) hml hcut.lbR hl1)) rfl rfl rfl ?_
            rintro _ _ ⟨⟨m2, hsm2, hom2⟩, rfl, hA⟩
            simp only [List.cons_append, List.nil_append] at hA
            replace hA := hA.symm
            subst hA
            refine WL_end hK40 ?_
            refine WC_region ?_
            refine WL_r (Rd_move rfl) rfl ?_
            refine WL_r (Rd_assign rfl) rfl ?_
            refine WL_nil ?_
            refine Ps_wkA (hK3 ⟨c, mid, lm1, decide ((d - c) / 8 ≤ d - mid), alr, m2⟩ (⟨by (try dsimp only); omega, hl1, hsw.trans (((hs3.trans hsm).trans (hsm2.wide (by omega) (Nat.le_refl _))).wide hcd.1 hcd.2.2), hcut.right hom hsm2 hom2 hcd.1 hcd.2.2 (by omega), by (try dsimp only); rw [hsm2.len]; exact hml⟩) (by (try dsimp only); omega))
         ·try simp only [dz, ne_eq] at hg29
          refine WJ_skip 3 rfl (by kernel_rfl) rfl rfl rfl (hp _ _) ?_
          refine WJ_skip 4 rfl (by kernel_rfl) rfl rfl rfl (hp _ _) ?_
          refine WJ_skip 5 rfl (by kernel_rfl) rfl rfl rfl (hp _ _) ?_
          refine WJ_skip 6 rfl (by kernel_rfl) rfl rfl rfl (hp _ _) ?_
          refine WJ_skip 7 rfl (by kernel_rfl) rfl rfl rfl (hp _ _) ?_
          refine WJ_skip 8 rfl (by kernel_rfl) rfl rfl rfl (hp _ _) ?_
          refine WJ_skip 9 rfl (by kernel_rfl) rfl rfl rfl (hp _ _) ?_
          refine WJ_skip 10 rfl (by kernel_rfl) rfl rfl rfl (hp _ _) ?_
          refine WJ_skip 11 rfl (by kernel_rfl) rfl rfl rfl (hp _ _) ?_
          refine WJ_all (rs := [12]) (by kernel_rfl) rfl ?_
          refine WI_one ?_
          refine WI_skip rfl rfl rfl rfl (fun _ => subA) ?_
          refine WJ_skip 13 rfl (by kernel_rfl) rfl rfl rfl (hp _ _) ?_
          refine WJ_tp 14 rfl (Rd_pickF rfl rfl) rfl (hp _ _) ?_
          refine WJ_done (by kernel_rfl) ?_
          refine Ps_next hK28 ?_
          refine WC_condF rfl ?_
          refine WC_skip ?_
          refine Ps_next hK27 ?_
          refine WC_sr fun K41 hK41 => ?_
          refine WL_r (Rd_move rfl) rfl ?_
          refine WL_r (Rd_move rfl) rfl ?_
          refine WL_r (Rd_move rfl) rfl ?_
          refine WL_r (Rd_move rfl) rfl ?_
          refine WL_ac (Ac_call cf86 rfl (hs := part_ct (l := w3) (a := c) (b := d) (p := p) (by rw [hs3.len]; exact hwl) hn (by omega) (by omega) (by omega))) rfl rfl rfl ?_
          rintro _ _ ⟨⟨⟨mid, alr, m⟩, hsm, hcut⟩, rfl, hA⟩
          simp only [List.cons_append, List.nil_append] at hA
          replace hA := hA.symm
          subst hA
          dsimp only at hsm hcut ⊢
          have hml : m.length = n := by rw [hsm.len, hs3.len]; exact hwl
          have hm1 := hcut.lo
          have hm2 := hcut.hi
          have hom := ordO_sw hor (hs3.trans hsm) hcd.1 hcd.2.2 (by omega)
          have hlm := hlc.sw (hs3.trans hsm) (by omega)
          refine WL_r (Rd_move rfl) rfl ?_
          refine WL_r (Rd_ext0 rfl) rfl ?_
          refine WL_r (Rd_ext1 rfl) rfl ?_
          refine WL_r (Rd_assign rfl) rfl ?_
          refine WL_r (Rd_assign rfl) rfl ?_
          refine WL_end hK41 ?_
          refine WC_sr fun K42 hK42 => ?_
          refine WL_r (Rd_move rfl) rfl ?_
          refine WL_r (Rd_assign rfl) rfl ?_
          refine WL_end hK42 ?_
          refine WC_sr fun K43 hK43 => ?_
          refine WL_r (Rd_move rfl) rfl ?_
          refine WL_r (Rd_move rfl) rfl ?_
          refine WL_r (Rd_subN rfl rfl) rfl ?_
          refine WL_r (Rd_move rfl) rfl ?_
          refine WL_r (Rd_move rfl) rfl ?_
          refine WL_r (Rd_subN rfl rfl) rfl ?_
          refine WL_r (Rd_assign rfl) rfl ?_
          refine WL_r (Rd_assign rfl) rfl ?_
          refine WL_end hK43 ?_
          refine WC_sr fun K44 hK44 => ?_
          refine WL_r (Rd_move rfl) rfl ?_
          refine WL_r (Rd_quoN (j := 8) rfl rfl) rfl ?_
          refine WL_r (Rd_assign rfl) rfl ?_
          refine WL_end hK44 ?_
          refine WC_sr fun K45 hK45 => ?_
          refine WL_r (Rd_move rfl) rfl ?_
          refine WL_r (Rd_move rfl) rfl ?_
          refine WL_r (Rd_lssN rfl rfl) rfl ?_
          refine WL_end hK45 ?_
          refine WC_cond rfl (fun hc7 => ?_) (fun hc7 => ?_)
          ·try simp only [dz, ne_eq] at hc7
           refine WC_sr fun K46 hK46 => ?_
           refine WL_r (Rd_move rfl) rfl ?_
           refine WL_r (Rd_move rfl) rfl ?_
           refine WL_r (Rd_geqN rfl rfl) rfl ?_
           refine WL_r (Rd_assign rfl) rfl ?_
           refine WL_end hK46 ?_
           refine WC_sr fun K47 hK47 => ?_
           refine WL_r (Rd_move rfl) rfl ?_
           refine WL_r (Rd_move rfl) rfl ?_
           refine WL_r (Rd_move rfl) rfl ?_
           refine WL_r (Rd_move rfl) rfl ?_
           refine WL_ac (Ac_call cf66 rfl (hs := ih c mid m lm1 (by omega) (by omega) (by omega) hml (hlm.sub (by omega)) hl1)) rfl rfl rfl ?_
           rintro _ _ ⟨⟨m2, hsm2, hom2⟩, rfl, hA⟩
           simp only [List.cons_append, List.nil_append] at hA
           replace hA := hA.symm
           subst hA
           refine WL_end hK47 ?_
           refine WC_region ?_
           refine WL_r (Rd_move rfl) rfl ?_
           refine WL_r (Rd_addN (j := 1) rfl rfl) rfl ?_
           refine WL_r (Rd_assign rfl) rfl ?_
           refine WL_nil ?_
           refine Ps_wkA (hK3 ⟨mid + 1, d, lm1, decide ((d - c) / 8 ≤ mid - c), alr, m2⟩ (⟨by (try dsimp only); omega, hl1, hsw.trans (((hs3.trans hsm).trans (hsm2.wide (Nat.le_refl _) (by omega))).wide hcd.1 hcd.2.2), hcut.left hom hsm2 hom2 hcd.1 hcd.2.2 (by omega), by (try dsimp only); rw [hsm2.len]; exact hml⟩) (by (try dsimp only); omega))
          ·try simp only [dz, ne_eq] at hc7
           refine WC_sr fun K48 hK48 => ?_
           refine WL_r (Rd_move rfl) rfl ?_
           refine WL_r (Rd_move rfl) rfl ?_
           refine WL_r (Rd_geqN rfl rfl) rfl ?_
           refine WL_r (Rd_assign rfl) rfl ?_
           refine WL_end hK48 ?_
           refine WC_sr fun K49 hK49 => ?_
           refine WL_r (Rd_move rfl) rfl ?_
           refine WL_r (Rd_move rfl) rfl ?_
           refine WL_r (Rd_addN (j := 1) rfl rfl) rfl ?_
           refine WL_r (Rd_move rfl) rfl ?_
           refine WL_r (Rd_move rfl) rfl ?_
           refine WL_ac (Ac_call cf66 rfl (hs := ih (mid + 1) d m lm1 (by omega) (by omega) (by omega) hml hcut.lbR hl1)) rfl rfl rfl ?_
           rintro _ _ ⟨⟨m2, hsm2, hom2⟩, rfl, hA⟩
           simp only [List.cons_append, List.nil_append] at hA
           replace hA := hA.symm
           subst hA
           refine WL_end hK49 ?_
           refine WC_region ?_
           refine WL_r (Rd_move rfl) rfl ?_
           refine WL_r (Rd_assign rfl) rfl ?_
           refine WL_nil ?_
           refine Ps_wkA (hK3 ⟨c, mid, lm1, decide ((d - c) / 8 ≤ d - mid), alr, m2⟩ (⟨by (try dsimp only); omega, hl1, hsw.trans (((hs3.trans hsm).trans (hsm2.wide (by omega) (Nat.le_refl _))).wide hcd.1 hcd.2.2), hcut.right hom hsm2 hom2 hcd.1 hcd.2.2 (by omega), by (try dsimp only); rw [hsm2.len]; exact hml⟩) (by (try dsimp only); omega))
       ·try simp only [dz, ne_eq] at hg24
        refine WL_skip rfl rfl rfl ?_
        refine WL_skip rfl rfl rfl ?_
        refine WL_r (Rd_pickF rfl rfl) rfl ?_
        refine WL_end hK22 ?_
        refine WC_meet (B0 := [arr (some ga) cap 1 25 (eU .u32 (w := 32)) w2]) (σ := (List B32)) (fun w3 => []) (fun w3 => [arr (some ga) cap 1 25 (eU .u32 (w := 32)) w3]) (fun w3 => SwR c d w w3) [0, 1, 2, 3, 8, 9, 10, 11, 12, 13, 14, 15, 16, 17, 18, 19, 20, 21, 22, 23, 24, 25, 26, 28, 29, 30, 31, 32, 34, 35, 36, 37, 38, 40, 41, 42, 43, 44, 45, 46, 47, 48, 49, 50, 51, 52, 53, 55, 56, 57, 58, 59, 60, 61, 62, 63, 64, 65, 66, 67, 68, 73, 74, 75, 76, 77, 78, 79, 80, 81, 82, 83, 84, 85, 86, 87, 88, 89, 90, 91, 92, 93, 94, 95, 96, 97, 98, 99, 100, 101, 102, 103, 104, 105, 106, 107, 108, 109, 110, 111, 112, 113, 114, 115, 116, 117, 118, 119, 120, 122, 123, 124, 125, 126, 127, 128, 129, 130, 131, 133] kpA (by (try dsimp only); repeat (first | with_reducible exact Gv.nil | (with_reducible apply Gv.cons; · (repeat (first | with_reducible exact Ext.here | with_reducible apply Ext.there))))) ?_ ?_
        ·intro hK50
         refine WC_condF rfl ?_
         refine WC_skip ?_
         refine Ps_wkA (hK50 (w2) (hs2))
        ·rintro w3 hs3
         simp only [List.cons_append, List.nil_append]
         have hw3l : w3.length = n := by rw [hs3.len]; exact hwl
         refine Ps_next hK21 ?_
         refine WC_seq fun K51 hK51 => ?_
         refine WC_seq fun K52 hK52 => ?_
         refine WC_draw mix [arr (some ga) cap 1 25 (eU .u32 (w := 32)) w3] (fun i => ([2, 2, 2, 2, 2, 2, 2, 2, 2, 2, 2, 2, 1, 2, 2] : List Nat).getD i 0) ?_
         refine WJ_tp 0 rfl (Rd_move rfl) rfl (hp _ _) ?_
         refine WJ_tp 1 rfl (Rd_gtrN (j := 0) rfl rfl) rfl (hp _ _) ?_
         refine WJ_tp 2 rfl (Rd_move rfl) rfl (hp _ _) ?_
         refine WJ_bool 75 rfl (fun hg53 => ?_) (fun hg53 => ?_)
         ·try simp only [dz, ne_eq] at hg53
          refine WJ_tp 3 rfl (Rd_move rfl) rfl (hp _ _) ?_
          refine WJ_tp 4 rfl (Rd_move rfl) rfl (hp _ _) ?_
          refine WJ_tp 5 rfl (Rd_subN (j := 1) rfl rfl) rfl (hp _ _) ?_
          refine WJ_tp 6 rfl (Rd_index (c - 1) rfl rfl ud99 sz25 (hj := by omega)) rfl (hp _ _) ?_
          refine WJ_tk 7 (Rd_load_arr (i := c - 1) (j := 0) rfl tk25 (hl := getA (l := w3) (by omega))) hp ?_ rfl (by kernel_rfl) rfl rfl rfl
          refine WJ_tp 8 rfl (Rd_move rfl) rfl (hp _ _) ?_
          refine WJ_tp 9 rfl (Rd_move rfl) rfl (hp _ _) ?_
          refine WJ_tp 10 rfl (Rd_index (p) rfl rfl ud99 sz25 (hj := by omega)) rfl (hp _ _) ?_
          refine WJ_tk 11 (Rd_load_arr (i := p) (j := 0) rfl tk25 (hl := getA (l := w3) (by omega))) hp ?_ rfl (by kernel_rfl) rfl rfl rfl
          refine WJ_all (rs := [12]) (by kernel_rfl) rfl ?_
          refine WI_one ?_
          refine WI_ac rfl (Ac_call cf84 rfl (hs := lessW_ct (x := w3.getD (c - 1) 0#32) (y := w3.getD (p) 0#32))) rfl rfl rfl rfl ?_
          rintro _ _ ⟨⟨⟩, rfl, hA⟩
          simp only [List.cons_append, List.nil_append] at hA
          replace hA := hA.symm
          subst hA
          refine ⟨(fun _ => subA), ?_⟩
          refine WJ_tp 13 rfl (Rd_not rfl) rfl (hp _ _) ?_
          refine WJ_tp 14 rfl (Rd_pickT rfl rfl) rfl (hp _ _) ?_
          refine WJ_done (by kernel_rfl) ?_
          refine Ps_next hK52 ?_
          refine WC_cond rfl (fun hc6 => ?_) (fun hc6 => ?_)
          ·try simp only [dz, ne_eq] at hc6
           have hle : vA w3 p ≤ vA w3 (c - 1) := by unfold vA at *; omega
           have hc0 : 0 < c := by omega
           refine WC_sr fun K54 hK54 => ?_
           refine WL_r (Rd_move rfl) rfl ?_
           refine WL_r (Rd_move rfl) rfl ?_
           refine WL_r (Rd_move rfl) rfl ?_
           refine WL_r (Rd_move rfl) rfl ?_
           refine WL_ac (Ac_call cf85 rfl (hs := partE_ct (l := w3) (a := c) (b := d) (p := p) (by rw [hs3.len]; exact hwl) hn (by omega) (by omega) (by omega))) rfl rfl rfl ?_
           rintro _ _ ⟨⟨⟨mid, m⟩, hsm, hmid, hme⟩, rfl, hA⟩
           simp only [List.cons_append, List.nil_append] at hA
           replace hA := hA.symm
           subst hA
           dsimp only at hsm hmid hme ⊢
           refine WL_r (Rd_assign rfl) rfl ?_
           refine WL_end hK54 ?_
           refine WC_sr fun K55 hK55 => ?_
           refine WL_r (Rd_move rfl) rfl ?_
           refine WL_r (Rd_assign rfl) rfl ?_
           refine WL_end hK55 ?_
           refine WC_exit ?_
           refine Ps_wkA (hK3 ⟨mid, d, lm1, wb, wp, m⟩ (⟨by (try dsimp only); omega, hl1, hsw.trans ((hs3.trans hsm).wide hcd.1 hcd.2.2), ordO_eqs (v := vA w3 p) (ordO_sw hor (hs3.trans hsm) hcd.1 hcd.2.2 (by omega)) (hlc.sw (hs3.trans hsm) (by omega)) hc0 (by rw [hsm.out (k := c - 1) (by rw [hs3.len]; omega) (.inl (by omega))]; exact hle) hme hcd.1 (by omega) hcd.2.2, by (try dsimp only); rw [hsm.len, hs3.len]; exact hwl⟩) (by (try dsimp only); omega))
          ·try simp only [dz, ne_eq] at hc6
           refine WC_skip ?_
           refine Ps_next hK51 ?_
           refine WC_sr fun K56 hK56 => ?_
           refine WL_r (Rd_move rfl) rfl ?_
           refine WL_r (Rd_move rfl) rfl ?_
           refine WL_r (Rd_move rfl) rfl ?_
           refine WL_r (Rd_move rfl) rfl ?_
           refine WL_ac (Ac_call cf86 rfl (hs := part_ct (l := w3) (a := c) (b := d) (p := p) (by rw [hs3.len]; exact hwl) hn (by omega) (by omega) (by omega))) rfl rfl rfl ?_
           rintro _ _ ⟨⟨⟨mid, alr, m⟩, hsm, hcut⟩, rfl, hA⟩
           simp only [List.cons_append, List.nil_append] at hA
           replace hA := hA.symm
           subst hA
           dsimp only at hsm hcut ⊢
           have hml : m.length = n := by rw [hsm.len, hs3.len]; exact hwl
           have hm1 := hcut.lo
           have hm2 := hcut.hi
           have hom := ordO_sw hor (hs3.trans hsm) hcd.1 hcd.2.2 (by omega)
           have hlm := hlc.sw (hs3.trans hsm) (by omega)
           refine WL_r (Rd_move rfl) rfl ?_
           refine WL_r (Rd_ext0 rfl) rfl ?_
           refine WL_r (Rd_ext1 rfl) rfl ?_
           refine WL_r (Rd_assign rfl) rfl ?_
           refine WL_r (Rd_assign rfl) rfl ?_
           refine WL_end hK56 ?_
           refine WC_sr fun K57 hK57 => ?_
           refine WL_r (Rd_move rfl) rfl ?_
           refine WL_r (Rd_assign rfl) rfl ?_
           refine WL_end hK57 ?_
           refine WC_sr fun K58 hK58 => ?_
           refine WL_r (Rd_move rfl) rfl ?_
           refine WL_r (Rd_move rfl) rfl ?_
           refine WL_r (Rd_subN rfl rfl) rfl ?_
           refine WL_r (Rd_move rfl) rfl ?_
           refine WL_r (Rd_move rfl) rfl ?_
           refine WL_r (Rd_subN rfl rfl) rfl ?_
           refine WL_r (Rd_assign rfl) rfl ?_
           refine WL_r (Rd_assign rfl) rfl ?_
           refine WL_end hK58 ?_
           refine WC_sr fun K59 hK59 => ?_
           refine WL_r (Rd_move rfl) rfl ?_
           refine WL_r (Rd_quoN (j := 8) rfl rfl) rfl ?_
           refine WL_r (Rd_assign rfl) rfl ?_
           refine WL_end hK59 ?_
           refine WC_sr fun K60 hK60 => ?_
           refine WL_r (Rd_move rfl) rfl ?_
           refine WL_r (Rd_move rfl) rfl ?_
           refine WL_r (Rd_lssN rfl rfl) rfl ?_
           refine WL_end hK60 ?_
           refine WC_cond rfl (fun hc7 => ?_) (fun hc7 => ?_)
           ·try simp only [dz, ne_eq] at hc7
            refine WC_sr fun K61 hK61 => ?_
            refine WL_r (Rd_move rfl) rfl ?_
            refine WL_r (Rd_move rfl) rfl ?_
            refine WL_r (Rd_geqN rfl rfl) rfl ?_
            refine WL_r (Rd_assign rfl) rfl ?_
            refine WL_end hK61 ?_
            refine WC_sr fun K62 hK62 => ?_
            refine WL_r (Rd_move rfl) rfl ?_
            refine WL_r (Rd_move rfl) rfl ?_
            refine WL_r (Rd_move rfl) rfl ?_
            refine WL_r (Rd_move rfl) rfl ?_
            refine WL_ac (Ac_call cf66 rfl (hs := ih c mid m lm1 (by omega) (by omega) (by omega) hml (hlm.sub (by omega)) hl1)) rfl rfl rfl ?_
            rintro _ _ ⟨⟨m2, hsm2, hom2⟩, rfl, hA⟩
            simp only [List.cons_append, List.nil_append] at hA
            replace hA := hA.symm
            subst hA
            refine WL_end hK62 ?_
            refine WC_region ?_
            refine WL_r (Rd_move rfl) rfl ?_
            refine WL_r (Rd_addN (j := 1) rfl rfl) rfl ?_
            refine WL_r (Rd_assign rfl) rfl ?_
            refine WL_nil ?_
            refine Ps_wkA (hK3 ⟨mid + 1, d, lm1, decide ((d - c) / 8 ≤ mid - c), alr, m2⟩ (⟨by (try dsimp only); omega, hl1, hsw.trans (((hs3.trans hsm).trans (hsm2.wide (Nat.le_refl _) (by omega))).wide hcd.1 hcd.2.2), hcut.left hom hsm2 hom2 hcd.1 hcd.2.2 (by omega), by (try dsimp only); rw [hsm2.len]; exact hml⟩) (by (try dsimp only); omega))
           ·try simp only [dz, ne_eq] at hc7
            refine WC_sr fun K63 hK63 => ?_
            refine WL_r (Rd_move rfl) rfl ?_
            refine WL_r (Rd_move rfl) rfl ?_
            refine WL_r (Rd_geqN rfl rfl) rfl ?_
            refine WL_r (Rd_assign rfl) rfl ?_
            refine WL_end hK63 ?_
            refine WC_sr fun K64 hK64 => ?_
            refine WL_r (Rd_move rfl) rfl ?_
            refine WL_r (Rd_move rfl) rfl ?_
            refine WL_r (Rd_addN (j := 1) rfl rfl) rfl ?_
            refine WL_r (Rd_move rfl) rfl ?_
            refine WL_r (Rd_move rfl) rfl ?_
            refine WL_ac (Ac_call cf66 rfl (hs := ih (mid + 1) d m lm1 (by omega) (by omega) (by omega) hml hcut.lbR hl1)) rfl rfl rfl ?_
            rintro _ _ ⟨⟨m2, hsm2, hom2⟩, rfl, hA⟩
            simp only [List.cons_append, List.nil_append] at hA
            replace hA := hA.symm
            subst hA
            refine WL_end hK64 ?_
            refine WC_region ?_
            refine WL_r (Rd_move rfl) rfl ?_
            refine WL_r (Rd_assign rfl) rfl ?_
            refine WL_nil ?_
            refine Ps_wkA (hK3 ⟨c, mid, lm1, decide ((d - c) / 8 ≤ d - mid), alr, m2⟩ (⟨by (try dsimp only); omega, hl1, hsw.trans (((hs3.trans hsm).trans (hsm2.wide (by omega) (Nat.le_refl _))).wide hcd.1 hcd.2.2), hcut.right hom hsm2 hom2 hcd.1 hcd.2.2 (by omega), by (try dsimp only); rw [hsm2.len]; exact hml⟩) (by (try dsimp only); omega))
         ·try simp only [dz, ne_eq] at hg53
          refine WJ_skip 3 rfl (by kernel_rfl) rfl rfl rfl (hp _ _) ?_
          refine WJ_skip 4 rfl (by kernel_rfl) rfl rfl rfl (hp _ _) ?_
          refine WJ_skip 5 rfl (by kernel_rfl) rfl rfl rfl (hp _ _) ?_
          refine WJ_skip 6 rfl (by kernel_rfl) rfl rfl rfl (hp _ _) ?_
          refine WJ_skip 7 rfl (by kernel_rfl) rfl rfl rfl (hp _ _) ?_
          refine WJ_skip 8 rfl (by kernel_rfl) rfl rfl rfl (hp _ _) ?_
          refine WJ_skip 9 rfl (by kernel_rfl) rfl rfl rfl (hp _ _) ?_
          refine WJ_skip 10 rfl (by kernel_rfl) rfl rfl rfl (hp _ _) ?_
          refine WJ_skip 11 rfl (by kernel_rfl) rfl rfl rfl (hp _ _) ?_
          refine WJ_all (rs := [12]) (by kernel_rfl) rfl ?_
          refine WI_one ?_
          refine WI_skip rfl rfl rfl rfl (fun _ => subA) ?_
          refine WJ_skip 13 rfl (by kernel_rfl) rfl rfl rfl (hp _ _) ?_
          refine WJ_tp 14 rfl (Rd_pickF rfl rfl) rfl (hp _ _) ?_
          refine WJ_done (by kernel_rfl) ?_
          refine Ps_next hK52 ?_
          refine WC_condF rfl ?_
          refine WC_skip ?_
          refine Ps_next hK51 ?_
          refine WC_sr fun K65 hK65 => ?_
          refine WL_r (Rd_move rfl) rfl ?_
          refine WL_r (Rd_move rfl) rfl ?_
          refine WL_r (Rd_move rfl) rfl ?_
          refine WL_r (Rd_move rfl) rfl ?_
          refine WL_ac (Ac_call cf86 rfl (hs := part_ct (l := w3) (a := c) (b := d) (p := p) (by rw [hs3.len]; exact hwl) hn (by omega) (by omega) (by omega))) rfl rfl rfl ?_
          rintro _ _ ⟨⟨⟨mid, alr, m⟩, hsm, hcut⟩, rfl, hA⟩
          simp only [List.cons_append, List.nil_append] at hA
          replace hA := hA.symm
          subst hA
          dsimp only at hsm hcut ⊢
          have hml : m.length = n := by rw [hsm.len, hs3.len]; exact hwl
          have hm1 := hcut.lo
          have hm2 := hcut.hi
          have hom := ordO_sw hor (hs3.trans hsm) hcd.1 hcd.2.2 (by omega)
          have hlm := hlc.sw (hs3.trans hsm) (by omega)
          refine WL_r (Rd_move rfl) rfl ?_
          refine WL_r (Rd_ext0 rfl) rfl ?_
          refine WL_r (Rd_ext1 rfl) rfl ?_
          refine WL_r (Rd_assign rfl) rfl ?_
          refine WL_r (Rd_assign rfl) rfl ?_
          refine WL_end hK65 ?_
          refine WC_sr fun K66 hK66 => ?_
          refine WL_r (Rd_move rfl) rfl ?_
          refine WL_r (Rd_assign rfl) rfl ?_
          refine WL_end hK66 ?_
          refine WC_sr fun K67 hK67 => ?_
          refine WL_r (Rd_move rfl) rfl ?_
          refine WL_r (Rd_move rfl) rfl ?_
          refine WL_r (Rd_subN rfl rfl) rfl ?_
          refine WL_r (Rd_move rfl) rfl ?_
          refine WL_r (Rd_move rfl) rfl ?_
          refine WL_r (Rd_subN rfl rfl) rfl ?_
          refine WL_r (Rd_assign rfl) rfl ?_
          refine WL_r (Rd_assign rfl) rfl ?_
          refine WL_end hK67 ?_
          refine WC_sr fun K68 hK68 => ?_
          refine WL_r (Rd_move rfl) rfl ?_
          refine WL_r (Rd_quoN (j := 8) rfl rfl) rfl ?_
          refine WL_r (Rd_assign rfl) rfl ?_
          refine WL_end hK68 ?_
          refine WC_sr fun K69 hK69 => ?_
          refine WL_r (Rd_move rfl) rfl ?_
          refine WL_r (Rd_move rfl) rfl ?_
          refine WL_r (Rd_lssN rfl rfl) rfl ?_
          refine WL_end hK69 ?_
          refine WC_cond rfl (fun hc7 => ?_) (fun hc7 => ?_)
          ·try simp only [dz, ne_eq] at hc7
           refine WC_sr fun K70 hK70 => ?_
           refine WL_r (Rd_move rfl) rfl ?_
           refine WL_r (Rd_move rfl) rfl ?_
           refine WL_r (Rd_geqN rfl rfl) rfl ?_
           refine WL_r (Rd_assign rfl) rfl ?_
           refine WL_end hK70 ?_
           refine WC_sr fun K71 hK71 => ?_
           refine WL_r (Rd_move rfl) rfl ?_
           refine WL_r (Rd_move rfl) rfl ?_
           refine WL_r (Rd_move rfl) rfl ?_
           refine WL_r (Rd_move rfl) rfl ?_
           refine WL_ac (Ac_call cf66 rfl (hs := ih c mid m lm1 (by omega) (by omega) (by omega) hml (hlm.sub (by omega)) hl1)) rfl rfl rfl ?_
           rintro _ _ ⟨⟨m2, hsm2, hom2⟩, rfl, hA⟩
           simp only [List.cons_append, List.nil_append] at hA
           replace hA := hA.symm
           subst hA
           refine WL_end hK71 ?_
           refine WC_region ?_
           refine WL_r (Rd_move rfl) rfl ?_
           refine WL_r (Rd_addN (j := 1) rfl rfl) rfl ?_
           refine WL_r (Rd_assign rfl) rfl ?_
           refine WL_nil ?_
           refine Ps_wkA (hK3 ⟨mid + 1, d, lm1, decide ((d - c) / 8 ≤ mid - c), alr, m2⟩ (⟨by (try dsimp only); omega, hl1, hsw.trans (((hs3.trans hsm).trans (hsm2.wide (Nat.le_refl _) (by omega))).wide hcd.1 hcd.2.2), hcut.left hom hsm2 hom2 hcd.1 hcd.2.2 (by omega), by (try dsimp only); rw [hsm2.len]; exact hml⟩) (by (try dsimp only); omega))
          ·try simp only [dz, ne_eq] at hc7
           refine WC_sr fun K72 hK72 => ?_
           refine WL_r (Rd_move rfl) rfl ?_
           refine WL_r (Rd_move rfl) rfl ?_
           refine WL_r (Rd_geqN rfl rfl) rfl ?_
           refine WL_r (Rd_assign rfl) rfl ?_
           refine WL_end hK72 ?_
           refine WC_sr fun K73 hK73 => ?_
           refine WL_r (Rd_move rfl) rfl ?_
           refine WL_r (Rd_move rfl) rfl ?_
           refine WL_r (Rd_addN (j := 1) rfl rfl) rfl ?_
           refine WL_r (Rd_move rfl) rfl ?_
           refine WL_r (Rd_move rfl) rfl ?_
           refine WL_ac (Ac_call cf66 rfl (hs := ih (mid + 1) d m lm1 (by omega) (by omega) (by omega) hml hcut.lbR hl1)) rfl rfl rfl ?_
           rintro _ _ ⟨⟨m2, hsm2, hom2⟩, rfl, hA⟩
           simp only [List.cons_append, List.nil_append] at hA
           replace hA := hA.symm
           subst hA
           refine WL_end hK73 ?_
           refine WC_region ?_
           refine WL_r (Rd_move rfl) rfl ?_
           refine WL_r (Rd_assign rfl) rfl ?_
           refine WL_nil ?_
           refine Ps_wkA (hK3 ⟨c, mid, lm1, decide ((d - c) / 8 ≤ d - mid), alr, m2⟩ (⟨by (try dsimp only); omega, hl1, hsw.trans (((hs3.trans hsm).trans (hsm2.wide (by omega) (Nat.le_refl _))).wide hcd.1 hcd.2.2), hcut.right hom hsm2 hom2 hcd.1 hcd.2.2 (by omega), by (try dsimp only); rw [hsm2.len]; exact hml⟩) (by (try dsimp only); omega))
      ·try simp only [dz, ne_eq] at hg23
       refine WL_skip rfl rfl rfl ?_
       refine WL_r (Rd_pickF rfl rfl) rfl ?_
       refine WL_r (Rd_move rfl) rfl ?_
       refine WL_skip rfl rfl rfl ?_
       refine WL_skip rfl rfl rfl ?_
       refine WL_r (Rd_pickF rfl rfl) rfl ?_
       refine WL_end hK22 ?_
       refine WC_meet (B0 := [arr (some ga) cap 1 25 (eU .u32 (w := 32)) w2]) (σ := (List B32)) (fun w3 => []) (fun w3 => [arr (some ga) cap 1 25 (eU .u32 (w := 32)) w3]) (fun w3 => SwR c d w w3) [0, 1, 2, 3, 8, 9, 10, 11, 12, 13, 14, 15, 16, 17, 18, 19, 20, 21, 22, 23, 24, 25, 26, 28, 29, 30, 31, 32, 34, 35, 36, 37, 38, 40, 41, 42, 43, 44, 45, 46, 47, 48, 49, 50, 51, 52, 53, 55, 56, 57, 58, 59, 60, 61, 62, 63, 64, 65, 66, 67, 68, 73, 74, 75, 76, 77, 78, 79, 80, 81, 82, 83, 84, 85, 86, 87, 88, 89, 90, 91, 92, 93, 94, 95, 96, 97, 98, 99, 100, 101, 102, 103, 104, 105, 106, 107, 108, 109, 110, 111, 112, 113, 114, 115, 116, 117, 118, 119, 120, 122, 123, 124, 125, 126, 127, 128, 129, 130, 131, 133] kpA (by (try dsimp only); repeat (first | with_reducible exact Gv.nil | (with_reducible apply Gv.cons; · (repeat (first | with_reducible exact Ext.here | with_reducible apply Ext.there))))) ?_ ?_
       ·intro hK74
        refine WC_condF rfl ?_
        refine WC_skip ?_
        refine Ps_wkA (hK74 (w2) (hs2))
       ·rintro w3 hs3
        simp only [List.cons_append, List.nil_append]
        have hw3l : w3.length = n := by rw [hs3.len]; exact hwl
        refine Ps_next hK21 ?_
        refine WC_seq fun K75 hK75 => ?_
        refine WC_seq fun K76 hK76 => ?_
        refine WC_draw mix [arr (some ga) cap 1 25 (eU .u32 (w := 32)) w3] (fun i => ([2, 2, 2, 2, 2, 2, 2, 2, 2, 2, 2, 2, 1, 2, 2] : List Nat).getD i 0) ?_
        refine WJ_tp 0 rfl (Rd_move rfl) rfl (hp _ _) ?_
        refine WJ_tp 1 rfl (Rd_gtrN (j := 0) rfl rfl) rfl (hp _ _) ?_
        refine WJ_tp 2 rfl (Rd_move rfl) rfl (hp _ _) ?_
        refine WJ_bool 75 rfl (fun hg77 => ?_) (fun hg77 => ?_)
        ·try simp only [dz, ne_eq] at hg77
         refine WJ_tp 3 rfl (Rd_move rfl) rfl (hp _ _) ?_
         refine WJ_tp 4 rfl (Rd_move rfl) rfl (hp _ _) ?_
         refine WJ_tp 5 rfl (Rd_subN (j := 1) rfl rfl) rfl (hp _ _) ?_
         refine WJ_tp 6 rfl (Rd_index (c - 1) rfl rfl ud99 sz25 (hj := by omega)) rfl (hp _ _) ?_
         refine WJ_tk 7 (Rd_load_arr (i := c - 1) (j := 0) rfl tk25 (hl := getA (l := w3) (by omega))) hp ?_ rfl (by kernel_rfl) rfl rfl rfl
         refine WJ_tp 8 rfl (Rd_move rfl) rfl (hp _ _) ?_
         refine WJ_tp 9 rfl (Rd_move rfl) rfl (hp _ _) ?_
         refine WJ_tp 10 rfl (Rd_index (p) rfl rfl ud99 sz25 (hj := by omega)) rfl (hp _ _) ?_
         refine WJ_tk 11 (Rd_load_arr (i := p) (j := 0) rfl tk25 (hl := getA (l := w3) (by omega))) hp ?_ rfl (by kernel_rfl) rfl rfl rfl
         refine WJ_all (rs := [12]) (by kernel_rfl) rfl ?_
         refine WI_one ?_
         refine WI_ac rfl (Ac_call cf84 rfl (hs := lessW_ct (x := w3.getD (c - 1) 0#32) (y := w3.getD (p) 0#32))) rfl rfl rfl rfl ?_
         rintro _ _ ⟨⟨⟩, rfl, hA⟩
         simp only [List.cons_append, List.nil_append] at hA
         replace hA := hA.symm
         subst hA
         refine ⟨(fun _ => subA), ?_⟩
         refine WJ_tp 13 rfl (Rd_not rfl) rfl (hp _ _) ?_
         refine WJ_tp 14 rfl (Rd_pickT rfl rfl) rfl (hp _ _) ?_
         refine WJ_done (by kernel_rfl) ?_
         refine Ps_next hK76 ?_
         refine WC_cond rfl (fun hc6 => ?_) (fun hc6 => ?_)
         ·try simp only [dz, ne_eq] at hc6
          have hle : vA w3 p ≤ vA w3 (c - 1) := by unfold vA at *; omega
          have hc0 : 0 < c := by omega
          refine WC_sr fun K78 hK78 => ?_
          refine WL_r (Rd_move rfl) rfl ?_
          refine WL_r (Rd_move rfl) rfl ?_
          refine WL_r (Rd_move rfl) rfl ?_
          refine WL_r (Rd_move rfl) rfl ?_
          refine WL_ac (Ac_call cf85 rfl (hs := partE_ct (l := w3) (a := c) (b := d) (p := p) (by rw [hs3.len]; exact hwl) hn (by omega) (by omega) (by omega))) rfl rfl rfl ?_
          rintro _ _ ⟨⟨⟨mid, m⟩, hsm, hmid, hme⟩, rfl, hA⟩
          simp only [List.cons_append, List.nil_append] at hA
          replace hA := hA.symm
          subst hA
          dsimp only at hsm hmid hme ⊢
          refine WL_r (Rd_assign rfl) rfl ?_
          refine WL_end hK78 ?_
          refine WC_sr fun K79 hK79 => ?_
          refine WL_r (Rd_move rfl) rfl ?_
          refine WL_r (Rd_assign rfl) rfl ?_
          refine WL_end hK79 ?_
          refine WC_exit ?_
          refine Ps_wkA (hK3 ⟨mid, d, lm1, wb, wp, m⟩ (⟨by (try dsimp only); omega, hl1, hsw.trans ((hs3.trans hsm).wide hcd.1 hcd.2.2), ordO_eqs (v := vA w3 p) (ordO_sw hor (hs3.trans hsm) hcd.1 hcd.2.2 (by omega)) (hlc.sw (hs3.trans hsm) (by omega)) hc0 (by rw [hsm.out (k := c - 1) (by rw [hs3.len]; omega) (.inl (by omega))]; exact hle) hme hcd.1 (by omega) hcd.2.2, by (try dsimp only); rw [hsm.len, hs3.len]; exact hwl⟩) (by (try dsimp only); omega))
         ·try simp only [dz, ne_eq] at hc6
          refine WC_skip ?_
          refine Ps_next hK75 ?_
          refine WC_sr fun K80 hK80 => ?_
          refine WL_r (Rd_move rfl) rfl ?_
          refine WL_r (Rd_move rfl) rfl ?_
          refine WL_r (Rd_move rfl) rfl ?_
          refine WL_r (Rd_move rfl) rfl ?_
          refine WL_ac (Ac_call cf86 rfl (hs := part_ct (l := w3) (a := c) (b := d) (p := p) (by rw [hs3.len]; exact hwl) hn (by omega) (by omega) (by omega))) rfl rfl rfl ?_
          rintro _ _ ⟨⟨⟨mid, alr, m⟩, hsm, hcut⟩, rfl, hA⟩
          simp only [List.cons_append, List.nil_append] at hA
          replace hA := hA.symm
          subst hA
          dsimp only at hsm hcut ⊢
          have hml : m.length = n := by rw [hsm.len, hs3.len]; exact hwl
          have hm1 := hcut.lo
          have hm2 := hcut.hi
          have hom := ordO_sw hor (hs3.trans hsm) hcd.1 hcd.2.2 (by omega)
          have hlm := hlc.sw (hs3.trans hsm) (by omega)
          refine WL_r (Rd_move rfl) rfl ?_
          refine WL_r (Rd_ext0 rfl) rfl ?_
          refine WL_r (Rd_ext1 rfl) rfl ?_
          refine WL_r (Rd_assign rfl) rfl ?_
          refine WL_r (Rd_assign rfl) rfl ?_
          refine WL_end hK80 ?_
          refine WC_sr fun K81 hK81 => ?_
          refine WL_r (Rd_move rfl) rfl ?_
          refine WL_r (Rd_assign rfl) rfl ?_
          refine WL_end hK81 ?_
          refine WC_sr fun K82 hK82 => ?_
          refine WL_r (Rd_move rfl) rfl ?_
          refine WL_r (Rd_move rfl) rfl ?_
          refine WL_r (Rd_subN rfl rfl) rfl ?_
          refine WL_r (Rd_move rfl) rfl ?_
          refine WL_r (Rd_move rfl) rfl ?_
          refine WL_r (Rd_subN rfl rfl) rfl ?_
          refine WL_r (Rd_assign rfl) rfl ?_
          refine WL_r (Rd_assign rfl) rfl ?_
          refine WL_end hK82 ?_
          refine WC_sr fun K83 hK83 => ?_
          refine WL_r (Rd_move rfl) rfl ?_
          refine WL_r (Rd_quoN (j := 8) rfl rfl) rfl ?_
          refine WL_r (Rd_assign rfl) rfl ?_
          refine WL_end hK83 ?_
          refine WC_sr fun K84 hK84 => ?_
          refine WL_r (Rd_move rfl) rfl ?_
          refine WL_r (Rd_move rfl) rfl ?_
          refine WL_r (Rd_lssN rfl rfl) rfl ?_
          refine WL_end hK84 ?_
          refine WC_cond rfl (fun hc7 => ?_) (fun hc7 => ?_)
          ·try simp only [dz, ne_eq] at hc7
           refine WC_sr fun K85 hK85 => ?_
           refine WL_r (Rd_move rfl) rfl ?_
           refine WL_r (Rd_move rfl) rfl ?_
           refine WL_r (Rd_geqN rfl rfl) rfl ?_
           refine WL_r (Rd_assign rfl) rfl ?_
           refine WL_end hK85 ?_
           refine WC_sr fun K86 hK86 => ?_
           refine WL_r (Rd_move rfl) rfl ?_
           refine WL_r (Rd_move rfl) rfl ?_
           refine WL_r (Rd_move rfl) rfl ?_
           refine WL_r (Rd_move rfl) rfl ?_
           refine WL_ac (Ac_call cf66 rfl (hs := ih c mid m lm1 (by omega) (by omega) (by omega) hml (hlm.sub (by omega)) hl1)) rfl rfl rfl ?_
           rintro _ _ ⟨⟨m2, hsm2, hom2⟩, rfl, hA⟩
           simp only [List.cons_append, List.nil_append] at hA
           replace hA := hA.symm
           subst hA
           refine WL_end hK86 ?_
           refine WC_region ?_
           refine WL_r (Rd_move rfl) rfl ?_
           refine WL_r (Rd_addN (j := 1) rfl rfl) rfl ?_
           refine WL_r (Rd_assign rfl) rfl ?_
           refine WL_nil ?_
           refine Ps_wkA (hK3 ⟨mid + 1, d, lm1, decide ((d - c) / 8 ≤ mid - c), alr, m2⟩ (⟨by (try dsimp only); omega, hl1, hsw.trans (((hs3.trans hsm).trans (hsm2.wide (Nat.le_refl _) (by omega))).wide hcd.1 hcd.2.2), hcut.left hom hsm2 hom2 hcd.1 hcd.2.2 (by omega), by (try dsimp only); rw [hsm2.len]; exact hml⟩) (by (try dsimp only); omega))
          ·try simp only [dz, ne_eq] at hc7
           refine WC_sr fun K87 hK87 => ?_
           refine WL_r (Rd_move rfl) rfl ?_
           refine WL_r (Rd_move rfl) rfl ?_
           refine WL_r (Rd_geqN rfl rfl) rfl ?_
           refine WL_r (Rd_assign rfl) rfl ?_
           refine WL_end hK87 ?_
           refine WC_sr fun K88 hK88 => ?_
           refine WL_r (Rd_move rfl) rfl ?_
           refine WL_r (Rd_move rfl) rfl ?_
           refine WL_r (Rd_addN (j := 1) rfl rfl) rfl ?_
           refine WL_r (Rd_move rfl) rfl ?_
           refine WL_r (Rd_move rfl) rfl ?_
           refine WL_ac (Ac_call cf66 rfl (hs := ih (mid + 1) d m lm1 (by omega) (by omega) (by omega) hml hcut.lbR hl1)) rfl rfl rfl ?_
           rintro _ _ ⟨⟨m2, hsm2, hom2⟩, rfl, hA⟩
           simp only [List.cons_append, List.nil_append] at hA
           replace hA := hA.symm
           subst hA
           refine WL_end hK88 ?_
           refine WC_region ?_
           refine WL_r (Rd_move rfl) rfl ?_
           refine WL_r (Rd_assign rfl) rfl ?_
           refine WL_nil ?_
           refine Ps_wkA (hK3 ⟨c, mid, lm1, decide ((d - c) / 8 ≤ d - mid), alr, m2⟩ (⟨by (try dsimp only); omega, hl1, hsw.trans (((hs3.trans hsm).trans (hsm2.wide (by omega) (Nat.le_refl _))).wide hcd.1 hcd.2.2), hcut.right hom hsm2 hom2 hcd.1 hcd.2.2 (by omega), by (try dsimp only); rw [hsm2.len]; exact hml⟩) (by (try dsimp only); omega))
        ·try simp only [dz, ne_eq] at hg77
         refine WJ_skip 3 rfl (by kernel_rfl) rfl rfl rfl (hp _ _) ?_
         refine WJ_skip 4 rfl (by kernel_rfl) rfl rfl rfl (hp _ _) ?_
         refine WJ_skip 5 rfl (by kernel_rfl) rfl rfl rfl (hp _ _) ?_
         refine WJ_skip 6 rfl (by kernel_rfl) rfl rfl rfl (hp _ _) ?_
         refine WJ_skip 7 rfl (by kernel_rfl) rfl rfl rfl (hp _ _) ?_
         refine WJ_skip 8 rfl (by kernel_rfl) rfl rfl rfl (hp _ _) ?_
         refine WJ_skip 9 rfl (by kernel_rfl) rfl rfl rfl (hp _ _) ?_
         refine WJ_skip 10 rfl (by kernel_rfl) rfl rfl rfl (hp _ _) ?_
         refine WJ_skip 11 rfl (by kernel_rfl) rfl rfl rfl (hp _ _) ?_
         refine WJ_all (rs := [12]) (by kernel_rfl) rfl ?_
         refine WI_one ?_
         refine WI_skip rfl rfl rfl rfl (fun _ => subA) ?_
         refine WJ_skip 13 rfl (by kernel_rfl) rfl rfl rfl (hp _ _) ?_
         refine WJ_tp 14 rfl (Rd_pickF rfl rfl) rfl (hp _ _) ?_
         refine WJ_done (by kernel_rfl) ?_
         refine Ps_next hK76 ?_
         refine WC_condF rfl ?_
         refine WC_skip ?_
         refine Ps_next hK75 ?_
         refine WC_sr fun K89 hK89 => ?_
         refine WL_r (Rd_move rfl) rfl ?_
         refine WL_r (Rd_move rfl) rfl ?_
         refine WL_r (Rd_move rfl) rfl ?_
         refine WL_r (Rd_move rfl) rfl ?_
         refine WL_ac (Ac_call cf86 rfl (hs := part_ct (l := w3) (a := c) (b := d) (p := p) (by rw [hs3.len]; exact hwl) hn (by omega) (by omega) (by omega))) rfl rfl rfl ?_
         rintro _ _ ⟨⟨⟨mid, alr, m⟩, hsm, hcut⟩, rfl, hA⟩
         simp only [List.cons_append, List.nil_append] at hA
         replace hA := hA.symm
         subst hA
         dsimp only at hsm hcut ⊢
         have hml : m.length = n := by rw [hsm.len, hs3.len]; exact hwl
         have hm1 := hcut.lo
         have hm2 := hcut.hi
         have hom := ordO_sw hor (hs3.trans hsm) hcd.1 hcd.2.2 (by omega)
         have hlm := hlc.sw (hs3.trans hsm) (by omega)
         refine WL_r (Rd_move rfl) rfl ?_
         refine WL_r (Rd_ext0 rfl) rfl ?_
         refine WL_r (Rd_ext1 rfl) rfl ?_
         refine WL_r (Rd_assign rfl) rfl ?_
         refine WL_r (Rd_assign rfl) rfl ?_
         refine WL_end hK89 ?_
         refine WC_sr fun K90 hK90 => ?_
         refine WL_r (Rd_move rfl) rfl ?_
         refine WL_r (Rd_assign rfl) rfl ?_
         refine WL_end hK90 ?_
         refine WC_sr fun K91 hK91 => ?_
         refine WL_r (Rd_move rfl) rfl ?_
         refine WL_r (Rd_move rfl) rfl ?_
         refine WL_r (Rd_subN rfl rfl) rfl ?_
         refine WL_r (Rd_move rfl) rfl ?_
         refine WL_r (Rd_move rfl) rfl ?_
         refine WL_r (Rd_subN rfl rfl) rfl ?_
         refine WL_r (Rd_assign rfl) rfl ?_
         refine WL_r (Rd_assign rfl) rfl ?_
         refine WL_end hK91 ?_
         refine WC_sr fun K92 hK92 => ?_
         refine WL_r (Rd_move rfl) rfl ?_
         refine WL_r (Rd_quoN (j := 8) rfl rfl) rfl ?_
         refine WL_r (Rd_assign rfl) rfl ?_
         refine WL_end hK92 ?_
         refine WC_sr fun K93 hK93 => ?_
         refine WL_r (Rd_move rfl) rfl ?_
         refine WL_r (Rd_move rfl) rfl ?_
         refine WL_r (Rd_lssN rfl rfl) rfl ?_
         refine WL_end hK93 ?_
         refine WC_cond rfl (fun hc7 => ?_) (fun hc7 => ?_)
         ·try simp only [dz, ne_eq] at hc7
          refine WC_sr fun K94 hK94 => ?_
          refine WL_r (Rd_move rfl) rfl ?_
          refine WL_r (Rd_move rfl) rfl ?_
          refine WL_r (Rd_geqN rfl rfl) rfl ?_
          refine WL_r (Rd_assign rfl) rfl ?_
          refine WL_end hK94 ?_
          refine WC_sr fun K95 hK95 => ?_
          refine WL_r (Rd_move rfl) rfl ?_
          refine WL_r (Rd_move rfl) rfl ?_
          refine WL_r (Rd_move rfl) rfl ?_
          refine WL_r (Rd_move rfl) rfl ?_
          refine WL_ac (Ac_call cf66 rfl (hs := ih c mid m lm1 (by omega) (by omega) (by omega) hml (hlm.sub (by omega)) hl1)) rfl rfl rfl ?_
          rintro _ _ ⟨⟨m2, hsm2, hom2⟩, rfl, hA⟩
          simp only [List.cons_append, List.nil_append] at hA
          replace hA := hA.symm
          subst hA
          refine WL_end hK95 ?_
          refine WC_region ?_
          refine WL_r (Rd_move rfl) rfl ?_
          refine WL_r (Rd_addN (j := 1) rfl rfl) rfl ?_
          refine WL_r (Rd_assign rfl) rfl ?_
          refine WL_nil ?_
          refine Ps_wkA (hK3 ⟨mid + 1, d, lm1, decide ((d - c) / 8 ≤ mid - c), alr, m2⟩ (⟨by (try dsimp only); omega, hl1, hsw.trans (((hs3.trans hsm).trans (hsm2.wide (Nat.le_refl _) (by omega))).wide hcd.1 hcd.2.2), hcut.left hom hsm2 hom2 hcd.1 hcd.2.2 (by omega), by (try dsimp only); rw [hsm2.len]; exact hml⟩) (by (try dsimp only); omega))
         ·try simp only [dz, ne_eq] at hc7
          refine WC_sr fun K96 hK96 => ?_
          refine WL_r (Rd_move rfl) rfl ?_
          refine WL_r (Rd_move rfl) rfl ?_
          refine WL_r (Rd_geqN rfl rfl) rfl ?_
          refine WL_r (Rd_assign rfl) rfl ?_
          refine WL_end hK96 ?_
          refine WC_sr fun K97 hK97 => ?_
          refine WL_r (Rd_move rfl) rfl ?_
          refine WL_r (Rd_move rfl) rfl ?_
          refine WL_r (Rd_addN (j := 1) rfl rfl) rfl ?_
          refine WL_r (Rd_move rfl) rfl ?_
          refine WL_r (Rd_move rfl) rfl ?_
          refine WL_ac (Ac_call cf66 rfl (hs := ih (mid + 1) d m lm1 (by omega) (by omega) (by omega) hml hcut.lbR hl1)) rfl rfl rfl ?_
          rintro _ _ ⟨⟨m2, hsm2, hom2⟩, rfl, hA⟩
          simp only [List.cons_append, List.nil_append] at hA
          replace hA := hA.symm
          subst hA
          refine WL_end hK97 ?_
          refine WC_region ?_
          refine WL_r (Rd_move rfl) rfl ?_
          refine WL_r (Rd_assign rfl) rfl ?_
          refine WL_nil ?_
          refine Ps_wkA (hK3 ⟨c, mid, lm1, decide ((d - c) / 8 ≤ d - mid), alr, m2⟩ (⟨by (try dsimp only); omega, hl1, hsw.trans (((hs3.trans hsm).trans (hsm2.wide (by omega) (Nat.le_refl _))).wide hcd.1 hcd.2.2), hcut.right hom hsm2 hom2 hcd.1 hcd.2.2 (by omega), by (try dsimp only); rw [hsm2.len]; exact hml⟩) (by (try dsimp only); omega))

theorem pdqU_ct {ga cap n : Nat} (hn : n ≤ 1000) : ∀ (k a b : Nat) (l : List B32) (lim : Int), b - a = k → a ≤ b → b ≤ n → l.length = n → LB l a b → (0 ≤ lim ∧ lim ≤ 100) → Ct Try.prog 66 [sl (some ga) n cap, .int .i64 ((a : Nat) : Int), .int .i64 ((b : Nat) : Int), .int .i64 lim] [arr (some ga) cap 1 25 (eU .u32 (w := 32)) l] (fun _ : {m : List B32 // SwR a b l m ∧ ordS m a b} => .tuple #[]) (fun g => [arr (some ga) cap 1 25 (eU .u32 (w := 32)) g.1]) := by
  intro k
  induction k using Nat.strongRecOn with
  | ind k ih =>
    intro a b l lim hk hab hb hl hlb hlim
    exact pdqS_ct hl hn hab hb hlb hk hlim fun a b l lim h => ih (b - a) h a b l lim rfl

theorem bitLen_100 : ∀ f x : Nat, Go.Lib.bitLenAux f x ≤ f
  | 0, _ => Nat.le_refl _
  | f + 1, x => by
    unfold Go.Lib.bitLenAux
    split
    · exact Nat.zero_le _
    · have := bitLen_100 f (x / 2); omega
theorem pdqF_ct {ga cap : Nat} {l : List B32} (hn : l.length ≤ 1000) : Ct Try.prog 66 [sl (some ga) l.length cap, .int .i64 0, .int .i64 ((l.length : Nat) : Int), .int .i64 (((Go.Lib.bitLen (l.length : Int).toNat) : Nat) : Int)] [arr (some ga) cap 1 25 (eU .u32 (w := 32)) l] (fun _ : Unit => .tuple #[]) (fun _ => [arr (some ga) cap 1 25 (eU .u32 (w := 32)) (l.mergeSort fun x y => decide (x.toNat ≤ y.toNat))]) :=
  Ct_re (pdqU_ct (ga := ga) (cap := cap) hn _ 0 l.length l (Go.Lib.bitLen (l.length : Int).toNat : Nat) rfl (Nat.zero_le _) (Nat.le_refl _) rfl (.inl rfl) ⟨by omega, by have := bitLen_100 64 (l.length : Int).toNat; unfold Go.Lib.bitLen; omega⟩) (fun _ => ()) (fun _ => rfl) (fun r F w q => by
    have h := ordS_fin (r.2.1.perm (Nat.le_refl _)) (by rw [r.2.1.len]; exact r.2.2)
    rw [← h]; exact q)

theorem sortWN_ct {a : Option Nat} {cap : Nat} {l : List B32} (hn : l.length ≤ 1000) (h13 : 0 < l.length) : Ct Try.prog 57 [sl a l.length cap] [arr a cap 1 25 (eU .u32 (w := 32)) l] (fun _ : Unit => .tuple #[]) (fun _ => [arr a cap 1 25 (eU .u32 (w := 32)) (l.mergeSort fun x y => decide (x.toNat ≤ y.toNat))]) := by
 refine Ct_body (n := 11) Try.func57 rfl rfl rfl fun F w0 Q hret hnorm hp => ?_
 change WC _ _ _ _ _ _ _ (_ :: F)
 refine WC_some (a := a) hasA (by omega) (fun ga hga hcpa => ?_)
 subst hga
 refine WC_sr fun K1 hK1 => ?_
 refine WL_r (Rd_move rfl) rfl ?_
 refine WL_r (Rd_len rfl rfl ud99) rfl ?_
 refine WL_r (Rd_assign rfl) rfl ?_
 refine WL_end hK1 ?_
 refine WC_region ?_
 refine WL_r (Rd_move rfl) rfl ?_
 refine WL_r (Rd_move rfl) rfl ?_
 refine WL_r (Rd_move rfl) rfl ?_
 refine WL_r (Rd_conv rfl ikd3_122 (r := ((l.length : Nat) : Int)) (wrap_u64n (by omega))) rfl ?_
 refine WL_ac (Ac_call cf63 rfl (hs := lenB_ct (n := l.length) (by omega))) rfl rfl rfl ?_
 rintro _ _ ⟨⟨⟩, rfl, hA⟩
 simp only [List.cons_append, List.nil_append] at hA
 replace hA := hA.symm
 subst hA
 refine WL_ac (Ac_call cf66 rfl (hs := pdqF_ct (ga := ga) (cap := cap) (l := l) hn)) rfl rfl rfl ?_
 rintro _ _ ⟨⟨⟩, rfl, hA⟩
 simp only [List.cons_append, List.nil_append] at hA
 replace hA := hA.symm
 subst hA
 refine WL_nil ?_
 exact hnorm.go () (Rs0 rfl)

theorem sortW1000 : SortW 1000 := fun a cap l h => by
  by_cases h0 : 0 < l.length
  · exact sortWN_ct (a := a) (cap := cap) h h0
  · exact sortW12 a cap l (by omega)
end Go.Proofs.Ytoakfknnaiapiaa
namespace Go.Proofs.Ytoakfknnaiapiaa
open Go.RowKit Go.SL Go.ShM Go.SvM
set_option maxHeartbeats 1000000
set_option maxRecDepth 20000
set_option linter.all false

theorem newA_ct {room : Int} (h : 0 ≤ room ∧ room ≤ 1073741824) : Ct Try.prog 8 [.int .i64 room] [] (fun g : Nat => .tuple #[.pointer (some ⟨g, 0, none⟩), .int .i64 0]) (fun g => [SvA 40 85 5 g room ⟨0, []⟩]) :=
  (new_ct h).reg fun g F w q => ⟨g.1, rfl, SvA_mk g.2 [] rfl q⟩
theorem doA_ct {b : Nat} {room t : Int} {s s2 : Sv1} {r : Rq} {Y : Asn} {rp : Rp} {er : Int} (hw : Wf room s) (hB : Sv [Y] r.b.v 1 (eU .u8 (w := 8)) r.b.l r.b.ao r.b.cap) (hn : s.l.length ≤ 100000000) (hc : callM room s t r = (rp, er, s2)) :
    Ct Try.prog 10 [.pointer (some ⟨b, 0, none⟩), .int .i64 t, .agg (eRq r).toArray] [SvA 40 85 5 b room s, Y] (fun g : RpG eI rp => .tuple #[g.v, .int .i64 er]) (fun g => [SvA 40 85 5 b room s2, Y, g.X]) :=
  Ct_ex fun q hq => (do_ct (b := b) (m := q.1) (room := room) (tick := s.tick) (t := t) (L := q.2) (r := r) (Y := Y) (rp := rp) (er := er) (s2 := s2) (by rw [hq]; exact hw) hB (by rw [← hq, List.length_map] at hn; exact hn) (by rw [hq]; exact hc)).reg fun g F w h => by
    obtain ⟨⟨L, ⟨na, nc⟩, ⟨ba, bc⟩⟩, hL⟩ := g
    simp only [List.cons_append, List.nil_append] at h
    (try dsimp only at h)
    have h2 := sat_perm (show Gv _ [arr na nc 1 3 eI rp.ns, arr ba bc 1 5 (eU .u8 (w := 8)) rp.bs] _ from gvA) h
    simp only [List.cons_append, List.nil_append] at h2
    obtain ⟨g, e1, h3⟩ := rp_view encI h2
    refine ⟨g, by rw [e1], ?_⟩
    have h4 := sat_perm (show Gv _ [cl b 40 [.bool true, .int .i64 room, .int .i64 s2.tick, .int .i64 (((usedE L) : Nat) : Int), .map (some q.1)], mpP q.1 kfK vfP (L.map En.kp), star (FEn 85 5) L] _ from gvA) h3
    have h5 := SvA_mk (s := s2) q.1 L hL h4
    exact sat_perm (show Gv _ [SvA 40 85 5 b room s2, Y, g.X] F from gvA) h5
theorem stateA_ct {b : Nat} {room : Int} {s : Sv1} (hw : Wf room s) (hn : s.l.length ≤ 100000000) :
    Ct Try.prog 15 [.pointer (some ⟨b, 0, none⟩)] [SvA 40 85 5 b room s] (fun g : StG s.l => .agg [.int .i64 room, .int .i64 s.tick, g.v].toArray) (fun g => [SvA 40 85 5 b room s, g.X]) :=
  Ct_ex fun q hq => (state_ct (b := b) (m := q.1) (room := room) (tick := s.tick) (L := q.2) (N := 1000) (by rw [hq]; exact hw.srt) (by rw [hq]; exact hw.num) (fun x hx => hw.ws x.e (by rw [← hq]; exact List.mem_map.2 ⟨x, hx, rfl⟩)) (fun x hx => by have := (hw.ls x.e (by rw [← hq]; exact List.mem_map.2 ⟨x, hx, rfl⟩)).2; omega) (fun x hx => hw.len x.e (by rw [← hq]; exact List.mem_map.2 ⟨x, hx, rfl⟩)) (Nat.le_refl _) sortW1000 (by rw [← hq, List.length_map] at hn; exact hn)).reg fun g F w h => by
    obtain ⟨⟨kms, hk⟩, a, cap⟩ := g
    simp only [List.cons_append, List.nil_append] at h
    (try dsimp only at h)
    have h2 := sat_perm (show Gv _ [arr a cap 19 65 eKM kms, star (FKM 5 27) kms] _ from gvA) h
    simp only [List.cons_append, List.nil_append] at h2
    obtain ⟨g, e1, h3⟩ := st_view (l := s.l) (by rw [hk]; exact hq) h2
    refine ⟨g, by rw [e1], ?_⟩
    have h4 := sat_perm (show Gv _ [cl b 40 [.bool true, .int .i64 room, .int .i64 s.tick, .int .i64 (((usedE q.2) : Nat) : Int), .map (some q.1)], mpP q.1 kfK vfP (q.2.map En.kp), star (FEn 85 5) q.2] _ from gvA) h3
    have h5 := SvA_mk (s := s) q.1 q.2 hq h4
    exact sat_perm (show Gv _ [SvA 40 85 5 b room s, g.X] F from gvA) h5
theorem loadA_no {X : Asn} {v : Value} {kvs : List KV} {ao : Option Addr} {cap : Nat} {room tick : Int} (hS : Sv [X] v 19 eKV kvs ao cap) (hOK : ∀ k ∈ kvs, OKv X k) (hn : kvs.length ≤ 100000000) (hlb : ∀ k ∈ kvs, k.ls.l.length ≤ 900000000000) (hwf : ¬ Wf room ⟨tick, kvs.map KV.kp⟩) :
    Ct Try.prog 18 [.agg [.int .i64 room, .int .i64 tick, v].toArray] [X] (fun _ : Unit => .tuple #[.pointer none, .int .i64 192]) (fun _ => [X]) := by
  by_cases h : 0 ≤ room ∧ room ≤ 1073741824
  · exact load_no hS hOK hn hlb h hwf
  · exact load_room hS (by omega)
theorem usedA_ct {b : Nat} {room : Int} {s : Sv1} : Ct Try.prog 13 [.pointer (some ⟨b, 0, none⟩)] [SvA 40 85 5 b room s] (fun _ : Unit => .int .i64 (((usedM s.l) : Nat) : Int)) (fun _ => [SvA 40 85 5 b room s]) :=
  Ct_ex fun q hq => ((used_ct (b := b) (m := q.1) (room := room) (tick := s.tick) (u := usedE q.2)).frame [mpP q.1 kfK vfP (q.2.map En.kp), star (FEn 85 5) q.2]).reg fun g F w h => ⟨(), by rw [usedE_M, hq], SvA_mk q.1 q.2 hq h⟩
end Go.Proofs.Ytoakfknnaiapiaa
namespace Go.Proofs.Ytoakfknnaiapiaa
open Go.RowKit Go.SL Go.ShM Go.SvM
set_option maxHeartbeats 1000000
set_option maxRecDepth 20000
set_option linter.all false
theorem cf25 : cfn Try.prog 25 = true := by kernel_rfl
theorem sameLt_ct {X : Asn} {v v' : Value} {l : List Ls} {ao ao' : Option Addr} {cap cap' : Nat} (hS : Sv [X] v 2 eLs l ao cap) (hS' : Sv [X] v' 2 eLs l ao' cap') (hl : l.length ≤ 900000000000) : Ct Try.prog 25 [v, v'] [X] (fun _ : Unit => .bool true) (fun _ => [X]) := by
  have h := sameL_ct hS hS' hl
  rw [show (Value.bool true) = .bool (decide (l = l)) from by simp]
  exact h

end Go.Proofs.Ytoakfknnaiapiaa
namespace Go.Proofs.Ytoakfknnaiapiaa
open Go.RowKit Go.SL Go.ShM Go.SvM
set_option maxHeartbeats 1000000
set_option maxRecDepth 20000
set_option linter.all false

end Go.Proofs.Ytoakfknnaiapiaa
