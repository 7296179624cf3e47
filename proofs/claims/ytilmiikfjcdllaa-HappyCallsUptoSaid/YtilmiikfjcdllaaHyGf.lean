/-
  Contracts of functions that the claim reaches, or the logic and the plain laws that they rest on, or the row over them. (Conditions: none beyond the statement.)
-/
import Derived.Test.YtilmiikfjcdllaaHyGe
import Derived.Test.YtilmiikfjcdllaaHyLa
import Derived.Test.YtilmiikfjcdllaaLibA
set_option linter.all false
namespace Go.Proofs.Ytilmiikfjcdllaa
open Go.RowKit Go.SL Go.ShM Go.HyM Go.Fl Go.SvM
set_option maxHeartbeats 1000000
set_option maxRecDepth 20000
set_option linter.all false
theorem ud73 : Try.prog.underlying 73 = some (.array 32 3) := by kernel_rfl
theorem zrC : zr Try.prog 73 = some (cntL []) := by kernel_rfl

theorem lasts3_no1 {X : Asn} {v w : Value} {ps : List Pr} {ao : Option Addr} {cap : Nat} {fl : List Nat} {ao2 : Option Addr} {cap2 : Nat} {k0 : Int} (hS : Sv [X] v 2 ePr ps ao cap) (hF : Sv [X] w 1 eF fl ao2 cap2) (hn : ps.length ≤ 100000000) (hn2 : fl.length ≤ 100000000) (hm : ¬ mayP ps) : Ct Try.prog 22 [v, w, .int .i64 k0] [X] (fun _ : Unit => .tuple #[.float .f64 0, .int .i64 230]) (fun _ => [X]) := by
 refine Ct_body (n := 129) Try.func22 rfl rfl rfl fun F w0 Q hret hnorm hp => ?_
 change WC _ _ _ _ _ _ _ (_ :: F)
 refine WC_sr fun K1 hK1 => ?_
 refine WL_r (Rd_assign rfl) rfl ?_
 refine WL_r (Rd_assign rfl) rfl ?_
 refine WL_end hK1 ?_
 refine WC_seq fun K2 hK2 => ?_
 refine WC_sr fun K3 hK3 => ?_
 refine WL_r (Rd_move rfl) rfl ?_
 refine WL_ac (Ac_call cf18 rfl (hs := May_ct (X := X) (ps := ps) hS hn)) rfl rfl rfl ?_
 rintro _ _ ⟨⟨⟩, rfl, hA⟩
 simp only [List.cons_append, List.nil_append] at hA
 replace hA := hA.symm
 subst hA
 rw [show decide (mayP ps) = false from decide_eq_false hm]
 refine WL_r (Rd_not rfl) rfl ?_
 refine WL_end hK3 ?_
 refine WC_condT rfl ?_
 refine WC_sr fun K4 hK4 => ?_
 refine WL_r (Rd_assign rfl) rfl ?_
 refine WL_r (Rd_assign rfl) rfl ?_
 refine WL_end hK4 ?_
 refine WC_ret ?_
 exact hret.gf () (Rs2 rfl rfl rfl)

theorem cd_step {l : List Pr} {n : Nat} (h : ∀ x : Nat, x < n → cD l ((x : Nat) : Int) ≤ 1) (k : cD l ((n : Nat) : Int) ≤ 1) : ∀ x : Nat, x < n + 1 → cD l ((x : Nat) : Int) ≤ 1 := fun x hx => by
  by_cases e : x < n
  · exact h x e
  · rw [show x = n by omega]; exact k

theorem lasts3_no2 {X : Asn} {v w : Value} {ps : List Pr} {ao : Option Addr} {cap : Nat} {fl : List Nat} {ao2 : Option Addr} {cap2 : Nat} {k0 : Int} (hS : Sv [X] v 2 ePr ps ao cap) (hF : Sv [X] w 1 eF fl ao2 cap2) (hn : ps.length ≤ 100000000) (hn2 : fl.length ≤ 100000000) (hm : mayP ps) (hg : ¬ goodL (lookP ps) fl.length) : Ct Try.prog 22 [v, w, .int .i64 k0] [X] (fun _ : Unit => .tuple #[.float .f64 0, .int .i64 230]) (fun _ => [X]) := by
 refine Ct_body (n := 129) Try.func22 rfl rfl rfl fun F w0 Q hret hnorm hp => ?_
 change WC _ _ _ _ _ _ _ (_ :: F)
 have hpl := lookP_len ps
 have hpk := lookP_ok ps
 have hnd := pw_nodup (lookP_pw ps)
 refine WC_sr fun K1 hK1 => ?_
 refine WL_r (Rd_assign rfl) rfl ?_
 refine WL_r (Rd_assign rfl) rfl ?_
 refine WL_end hK1 ?_
 refine WC_seq fun K2 hK2 => ?_
 refine WC_sr fun K3 hK3 => ?_
 refine WL_r (Rd_move rfl) rfl ?_
 refine WL_ac (Ac_call cf18 rfl (hs := May_ct (X := X) (ps := ps) hS hn)) rfl rfl rfl ?_
 rintro _ _ ⟨⟨⟩, rfl, hA⟩
 simp only [List.cons_append, List.nil_append] at hA
 replace hA := hA.symm
 subst hA
 rw [show decide (mayP ps) = true from decide_eq_true hm]
 refine WL_r (Rd_not rfl) rfl ?_
 refine WL_end hK3 ?_
 refine WC_condF rfl ?_
 refine WC_skip ?_
 refine Ps_next hK2 ?_
 refine WC_sr fun K4 hK4 => ?_
 refine WL_r (Rd_move rfl) rfl ?_
 refine WL_ac (Ac_call cf40 rfl (hs := table_ct (X := X) (ps := ps) hS hn hm.2)) rfl rfl rfl ?_
 rintro _ _ ⟨⟨t, ht⟩, rfl, hA⟩
 simp only [List.cons_append, List.nil_append] at hA
 replace hA := hA.symm
 subst hA
 refine WL_ac (Ac_alloc zrT) rfl rfl rfl ?_
 rintro _ _ ⟨b8, rfl, rfl⟩
 refine WL_ac0 (Ac_store (ys := t.map Value.bool) rfl rfl szT (hv := tb_sz ht.1) (hl := tb_le) (h1 := tb_one) (hr := tb_put)) rfl rfl ?_
 rintro _ _ rfl
 refine WL_end hK4 ?_
 refine WC_sr fun K5 hK5 => ?_
 refine WL_ac (Ac_alloc zrC) rfl rfl rfl ?_
 rintro _ _ ⟨b9, rfl, rfl⟩
 rw [show cntL [] = cntL (doneC (lookP ps) 0 0) from by rw [done_0 hpk]]
 refine WL_end hK5 ?_
 refine WC_sr fun K6 hK6 => ?_
 refine WL_r (Rd_valE (v := .int .i64 (((doneC (lookP ps) 0 0).length : Nat) : Int)) (Rd_assign rfl) (by rw [done_0 hpk] <;> rfl)) rfl ?_
 refine WL_end hK6 ?_
 refine WC_seq fun K7 hK7 => ?_
 refine WC_sr fun K8 hK8 => ?_
 refine WL_r (Rd_assign rfl) rfl ?_
 refine WL_end hK8 ?_
 refine WC_block ?_
 refine WC_loopK (σ := Nat) (fun n => [(10, .int .i64 (((doneC (lookP ps) n 0).length : Nat) : Int)), (11, .int .i64 ((n : Nat) : Int))]) (fun n => [cl b9 73 (cntL (doneC (lookP ps) n 0))]) (fun n => n ≤ 255 ∧ (∀ x : Nat, x < n → cD (lookP ps) ((x : Nat) : Int) ≤ 1) ∧ (∀ q ∈ (doneC (lookP ps) n 0), q.1 < ((fl.length : Nat) : Int))) (fun n => 255 - n) (0) [1, 2, 8, 9, 14, 15, 16, 17, 18, 19, 20, 21, 55, 56, 57, 58, 59, 60, 61, 62, 63, 64, 65, 66, 67, 68, 69, 70, 71, 72, 73, 74, 75, 76, 77, 78, 79, 80, 81, 82, 83, 84, 85, 86, 87, 88, 89, 90, 91, 92, 93, 94, 95, 96, 97, 98, 99, 100, 101, 102, 103, 104, 105, 106, 107, 108, 109, 110, 111, 112, 113, 114, 115, 116, 117, 118, 119, 120, 121, 122, 123, 124, 125, 126, 127, 128] kpA (by (try dsimp only); repeat (first | with_reducible exact Gv.nil | (with_reducible apply Gv.cons; · (repeat (first | with_reducible exact Ext.here | with_reducible apply Ext.there))))) ?_ ?_ Sub.refl ?_
 ·exact ⟨Nat.zero_le _, fun x h => absurd h (by omega), fun q h => by rw [done_0 hpk] at h; cases h⟩
 ·(try dsimp only); exact (Wk.cons lkA (Wk.cons lkA Wk.nil))
 ·rintro n ⟨hn1, hcd, hdn⟩ K9 hK9
  simp only [List.cons_append, List.nil_append]
  have hdl := done_le (lookP ps) n 0
  refine WC_seq fun K10 hK10 => ?_
  refine WC_sr fun K11 hK11 => ?_
  refine WL_r (Rd_move rfl) rfl ?_
  refine WL_r (Rd_lssN (j := 255) rfl rfl) rfl ?_
  refine WL_end hK11 ?_
  refine WC_cond rfl (fun hc1 => ?_) (fun hc1 => ?_)
  ·try simp only [dz, ne_eq] at hc1
   refine WC_skip ?_
   refine Ps_next hK10 ?_
   refine WC_seq fun K12 hK12 => ?_
   refine WC_block ?_
   refine WC_sr fun K13 hK13 => ?_
   refine WL_r (Rd_valE (v := .int .i64 (((onC (lookP ps) n 0).length : Nat) : Int)) (Rd_assign rfl) (by rw [on_0 hpk] <;> rfl)) rfl ?_
   refine WL_end hK13 ?_
   refine WC_seq fun K14 hK14 => ?_
   refine WC_sr fun K15 hK15 => ?_
   refine WL_r (Rd_assign rfl) rfl ?_
   refine WL_end hK15 ?_
   refine WC_block ?_
   refine WC_loopK (σ := Nat) (fun s => [(10, .int .i64 (((doneC (lookP ps) n s).length : Nat) : Int)), (12, .int .i64 (((onC (lookP ps) n s).length : Nat) : Int)), (13, .int .i64 ((s : Nat) : Int))]) (fun s => [cl b9 73 (cntL (doneC (lookP ps) n s))]) (fun s => s ≤ 32 ∧ (∀ q ∈ (doneC (lookP ps) n s), q.1 < ((fl.length : Nat) : Int))) (fun s => 32 - s) (0) [1, 2, 8, 9, 11, 14, 15, 16, 17, 18, 19, 20, 21, 27, 28, 29, 30, 53, 54, 55, 56, 57, 58, 59, 60, 61, 62, 63, 64, 65, 66, 67, 68, 69, 70, 71, 72, 73, 74, 75, 76, 77, 78, 79, 80, 81, 82, 83, 84, 85, 86, 87, 88, 89, 90, 91, 92, 93, 94, 95, 96, 97, 98, 99, 100, 101, 102, 103, 104, 105, 106, 107, 108, 109, 110, 111, 112, 113, 114, 115, 116, 117, 118, 119, 120, 121, 122, 123, 124, 125, 126, 127, 128] kpA (by (try dsimp only); repeat (first | with_reducible exact Gv.nil | (with_reducible apply Gv.cons; · (repeat (first | with_reducible exact Ext.here | with_reducible apply Ext.there))))) ?_ ?_ Sub.refl ?_
   ·exact ⟨Nat.zero_le _, hdn⟩
   ·(try dsimp only); exact (Wk.cons lkA (Wk.cons lkA (Wk.cons lkA Wk.nil)))
   ·rintro s ⟨hs, hdn⟩ K16 hK16
    simp only [List.cons_append, List.nil_append]
    have hdl2 := done_le (lookP ps) n s
    have hol2 := on_le (lookP ps) n s
    have hsl2 := cS_le (doneC (lookP ps) n s) ((s : Nat) : Int)
    refine WC_seq fun K17 hK17 => ?_
    refine WC_sr fun K18 hK18 => ?_
    refine WL_r (Rd_move rfl) rfl ?_
    refine WL_r (Rd_lssN (j := 32) rfl rfl) rfl ?_
    refine WL_end hK18 ?_
    refine WC_cond rfl (fun hc2 => ?_) (fun hc2 => ?_)
    ·try simp only [dz, ne_eq] at hc2
     refine WC_skip ?_
     refine Ps_next hK17 ?_
     refine WC_seq fun K19 hK19 => ?_
     refine WC_block ?_
     refine WC_sr fun K20 hK20 => ?_
     refine WL_r (Rd_move rfl) rfl ?_
     refine WL_r (Rd_move rfl) rfl ?_
     refine WL_r (Rd_indexT1 s rfl rfl ud67 szR (by omega) (by omega)) rfl ?_
     refine WL_r (Rd_indexT2 n rfl rfl ud65 sz4 (by omega) (by omega)) rfl ?_
     refine WL_r (Rd_load rfl tk4 (v := .bool (tAt t s n)) (hi := tAt_get ht.1 (by omega) (by omega))) rfl ?_
     refine WL_end hK20 ?_
     refine WC_cond rfl (fun hc3 => ?_) (fun hc3 => ?_)
     ·try simp only [dz, ne_eq] at hc3
      have htn : tAt t s n = true := by first | assumption | simp_all
      have hin := tab_in ht hm.2 (by omega) (by omega) htn
      refine WC_sr fun K21 hK21 => ?_
      refine WL_r (Rd_move rfl) rfl ?_
      refine WL_r (Rd_addN (j := 1) rfl rfl) rfl ?_
      refine WL_r (Rd_assign rfl) rfl ?_
      refine WL_end hK21 ?_
      refine WC_sr fun K22 hK22 => ?_
      refine WL_r (Rd_move rfl) rfl ?_
      refine WL_r (Rd_indexB s rfl rfl ud73 sz3 (by omega) (by omega)) rfl ?_
      refine WL_r (Rd_load rfl tk3 (v := .int .i64 (((cS (doneC (lookP ps) n s) ((s : Nat) : Int)) : Nat) : Int)) (hi := cntL_get (by omega))) rfl ?_
      refine WL_r (Rd_addN (j := 1) rfl rfl) rfl ?_
      refine WL_r (Rd_indexB s rfl rfl ud73 sz3 (by omega) (by omega)) rfl ?_
      refine WL_ac0 (Ac_store1 (ys := cntL (doneC (lookP ps) n (s + 1))) rfl rfl sz3 (hl := by rw [Nat.blt_eq, cntL_len]; omega) (hr := cntL_set hnd (by omega) hin)) rfl rfl ?_
      rintro _ _ rfl
      refine WL_end hK22 ?_
      refine WC_sr fun K23 hK23 => ?_
      refine WL_r (Rd_move rfl) rfl ?_
      refine WL_r (Rd_addN (j := 1) rfl rfl) rfl ?_
      refine WL_r (Rd_assign rfl) rfl ?_
      refine WL_end hK23 ?_
      refine WC_sr fun K24 hK24 => ?_
      refine WL_r (Rd_move rfl) rfl ?_
      refine WL_r (Rd_move rfl) rfl ?_
      refine WL_r (Rd_len_sv rfl rfl ud34 (hA := hF)) rfl ?_
      refine WL_r (Rd_geqN rfl rfl) rfl ?_
      refine WL_end hK24 ?_
      refine WC_cond rfl (fun hc4 => ?_) (fun hc4 => ?_)
      ·try simp only [dz, ne_eq] at hc4
       refine WC_sr fun K25 hK25 => ?_
       refine WL_r (Rd_assign rfl) rfl ?_
       refine WL_r (Rd_assign rfl) rfl ?_
       refine WL_end hK25 ?_
       refine WC_ret ?_
       exact hret.gf () (Rs2 rfl rfl rfl)
      ·try simp only [dz, ne_eq] at hc4
       have hdn2 := done_lt hnd hin hdn (by omega)
       refine WC_skip ?_
       refine Ps_next hK19 ?_
       refine WC_region ?_
       rw [on_len hnd hin, done_len hnd hin]
       refine WL_r (Rd_move rfl) rfl ?_
       refine WL_r (Rd_addN (j := 1) rfl rfl) rfl ?_
       refine WL_r (Rd_assign rfl) rfl ?_
       refine WL_nil ?_
       refine Ps_wkB (hK16 (s + 1) (⟨by omega, hdn2⟩) (by omega))
     ·try simp only [dz, ne_eq] at hc3
      have htn : tAt t s n = false := by first | assumption | simp_all
      have hin := tab_out ht hm.2 (by omega) (by omega) htn
      refine WC_skip ?_
      refine Ps_next hK19 ?_
      refine WC_region ?_
      rw [done_no hin, on_no hin]
      rw [done_no hin] at hdn
      refine WL_r (Rd_move rfl) rfl ?_
      refine WL_r (Rd_addN (j := 1) rfl rfl) rfl ?_
      refine WL_r (Rd_assign rfl) rfl ?_
      refine WL_nil ?_
      refine Ps_wkB (hK16 (s + 1) (⟨by omega, hdn⟩) (by omega))
    ·try simp only [dz, ne_eq] at hc2
     obtain rfl : s = 32 := by omega
     rw [done_row hpk] at hdn
     rw [done_row hpk, on_end hpk]
     refine WC_exit ?_
     refine Ps_next hK14 ?_
     refine WC_sr fun K26 hK26 => ?_
     refine WL_r (Rd_move rfl) rfl ?_
     refine WL_r (Rd_gtrN (j := 1) rfl rfl) rfl ?_
     refine WL_end hK26 ?_
     refine WC_cond rfl (fun hc5 => ?_) (fun hc5 => ?_)
     ·try simp only [dz, ne_eq] at hc5
      refine WC_sr fun K27 hK27 => ?_
      refine WL_r (Rd_assign rfl) rfl ?_
      refine WL_r (Rd_assign rfl) rfl ?_
      refine WL_end hK27 ?_
      refine WC_ret ?_
      exact hret.gf () (Rs2 rfl rfl rfl)
     ·try simp only [dz, ne_eq] at hc5
      refine WC_skip ?_
      refine Ps_next hK12 ?_
      refine WC_region ?_
      refine WL_r (Rd_move rfl) rfl ?_
      refine WL_r (Rd_addN (j := 1) rfl rfl) rfl ?_
      refine WL_r (Rd_assign rfl) rfl ?_
      refine WL_nil ?_
      refine Ps_wkB (hK9 (n + 1) (⟨by omega, cd_step hcd (by omega), hdn⟩) (by omega))
  ·try simp only [dz, ne_eq] at hc1
   obtain rfl : n = 255 := by omega
   rw [done_end hpk] at hdn
   exact absurd (good_tab hpk (fun x hx => hcd x hx) hdn) hg

theorem lasts3_no3 {X : Asn} {v w : Value} {ps : List Pr} {ao : Option Addr} {cap : Nat} {fl : List Nat} {ao2 : Option Addr} {cap2 : Nat} {k0 : Int} (hS : Sv [X] v 2 ePr ps ao cap) (hF : Sv [X] w 1 eF fl ao2 cap2) (hn : ps.length ≤ 100000000) (hn2 : fl.length ≤ 100000000) (hm : mayP ps) (hg : goodL (lookP ps) fl.length) (ho : oddsOk fl = false) : Ct Try.prog 22 [v, w, .int .i64 k0] [X] (fun _ : Unit => .tuple #[.float .f64 0, .int .i64 231]) (fun _ => [X]) := by
 refine Ct_body (n := 129) Try.func22 rfl rfl rfl fun F w0 Q hret hnorm hp => ?_
 change WC _ _ _ _ _ _ _ (_ :: F)
 have hpl := lookP_len ps
 have hpk := lookP_ok ps
 have hnd := pw_nodup (lookP_pw ps)
 refine WC_sr fun K1 hK1 => ?_
 refine WL_r (Rd_assign rfl) rfl ?_
 refine WL_r (Rd_assign rfl) rfl ?_
 refine WL_end hK1 ?_
 refine WC_seq fun K2 hK2 => ?_
 refine WC_sr fun K3 hK3 => ?_
 refine WL_r (Rd_move rfl) rfl ?_
 refine WL_ac (Ac_call cf18 rfl (hs := May_ct (X := X) (ps := ps) hS hn)) rfl rfl rfl ?_
 rintro _ _ ⟨⟨⟩, rfl, hA⟩
 simp only [List.cons_append, List.nil_append] at hA
 replace hA := hA.symm
 subst hA
 rw [show decide (mayP ps) = true from decide_eq_true hm]
 refine WL_r (Rd_not rfl) rfl ?_
 refine WL_end hK3 ?_
 refine WC_condF rfl ?_
 refine WC_skip ?_
 refine Ps_next hK2 ?_
 refine WC_sr fun K4 hK4 => ?_
 refine WL_r (Rd_move rfl) rfl ?_
 refine WL_ac (Ac_call cf40 rfl (hs := table_ct (X := X) (ps := ps) hS hn hm.2)) rfl rfl rfl ?_
 rintro _ _ ⟨⟨t, ht⟩, rfl, hA⟩
 simp only [List.cons_append, List.nil_append] at hA
 replace hA := hA.symm
 subst hA
 refine WL_ac (Ac_alloc zrT) rfl rfl rfl ?_
 rintro _ _ ⟨b8, rfl, rfl⟩
 refine WL_ac0 (Ac_store (ys := t.map Value.bool) rfl rfl szT (hv := tb_sz ht.1) (hl := tb_le) (h1 := tb_one) (hr := tb_put)) rfl rfl ?_
 rintro _ _ rfl
 refine WL_end hK4 ?_
 refine WC_sr fun K5 hK5 => ?_
 refine WL_ac (Ac_alloc zrC) rfl rfl rfl ?_
 rintro _ _ ⟨b9, rfl, rfl⟩
 rw [show cntL [] = cntL (doneC (lookP ps) 0 0) from by rw [done_0 hpk]]
 refine WL_end hK5 ?_
 refine WC_sr fun K6 hK6 => ?_
 refine WL_r (Rd_valE (v := .int .i64 (((doneC (lookP ps) 0 0).length : Nat) : Int)) (Rd_assign rfl) (by rw [done_0 hpk] <;> rfl)) rfl ?_
 refine WL_end hK6 ?_
 refine WC_seq fun K7 hK7 => ?_
 refine WC_sr fun K8 hK8 => ?_
 refine WL_r (Rd_assign rfl) rfl ?_
 refine WL_end hK8 ?_
 refine WC_block ?_
 refine WC_loopK (σ := Nat) (fun n => [(10, .int .i64 (((doneC (lookP ps) n 0).length : Nat) : Int)), (11, .int .i64 ((n : Nat) : Int))]) (fun n => [cl b9 73 (cntL (doneC (lookP ps) n 0))]) (fun n => n ≤ 255 ∧ (∀ x : Nat, x < n → cD (lookP ps) ((x : Nat) : Int) ≤ 1) ∧ (∀ q ∈ (doneC (lookP ps) n 0), q.1 < ((fl.length : Nat) : Int))) (fun n => 255 - n) (0) [1, 2, 8, 9, 14, 15, 16, 17, 18, 19, 20, 21, 55, 56, 57, 58, 59, 60, 61, 62, 63, 64, 65, 66, 67, 68, 69, 70, 71, 72, 73, 74, 75, 76, 77, 78, 79, 80, 81, 82, 83, 84, 85, 86, 87, 88, 89, 90, 91, 92, 93, 94, 95, 96, 97, 98, 99, 100, 101, 102, 103, 104, 105, 106, 107, 108, 109, 110, 111, 112, 113, 114, 115, 116, 117, 118, 119, 120, 121, 122, 123, 124, 125, 126, 127, 128] kpA (by (try dsimp only); repeat (first | with_reducible exact Gv.nil | (with_reducible apply Gv.cons; · (repeat (first | with_reducible exact Ext.here | with_reducible apply Ext.there))))) ?_ ?_ Sub.refl ?_
 ·exact ⟨Nat.zero_le _, fun x h => absurd h (by omega), fun q h => by rw [done_0 hpk] at h; cases h⟩
 ·(try dsimp only); exact (Wk.cons lkA (Wk.cons lkA Wk.nil))
 ·rintro n ⟨hn1, hcd, hdn⟩ K9 hK9
  simp only [List.cons_append, List.nil_append]
  have hdl := done_le (lookP ps) n 0
  refine WC_seq fun K10 hK10 => ?_
  refine WC_sr fun K11 hK11 => ?_
  refine WL_r (Rd_move rfl) rfl ?_
  refine WL_r (Rd_lssN (j := 255) rfl rfl) rfl ?_
  refine WL_end hK11 ?_
  refine WC_cond rfl (fun hc1 => ?_) (fun hc1 => ?_)
  ·try simp only [dz, ne_eq] at hc1
   refine WC_skip ?_
   refine Ps_next hK10 ?_
   refine WC_seq fun K12 hK12 => ?_
   refine WC_block ?_
   refine WC_sr fun K13 hK13 => ?_
   refine WL_r (Rd_valE (v := .int .i64 (((onC (lookP ps) n 0).length : Nat) : Int)) (Rd_assign rfl) (by rw [on_0 hpk] <;> rfl)) rfl ?_
   refine WL_end hK13 ?_
   refine WC_seq fun K14 hK14 => ?_
   refine WC_sr fun K15 hK15 => ?_
   refine WL_r (Rd_assign rfl) rfl ?_
   refine WL_end hK15 ?_
   refine WC_block ?_
   refine WC_loopK (σ := Nat) (fun s => [(10, .int .i64 (((doneC (lookP ps) n s).length : Nat) : Int)), (12, .int .i64 (((onC (lookP ps) n s).length : Nat) : Int)), (13, .int .i64 ((s : Nat) : Int))]) (fun s => [cl b9 73 (cntL (doneC (lookP ps) n s))]) (fun s => s ≤ 32 ∧ (∀ q ∈ (doneC (lookP ps) n s), q.1 < ((fl.length : Nat) : Int))) (fun s => 32 - s) (0) [1, 2, 8, 9, 11, 14, 15, 16, 17, 18, 19, 20, 21, 27, 28, 29, 30, 53, 54, 55, 56, 57, 58, 59, 60, 61, 62, 63, 64, 65, 66, 67, 68, 69, 70, 71, 72, 73, 74, 75, 76, 77, 78, 79, 80, 81, 82, 83, 84, 85, 86, 87, 88, 89, 90, 91, 92, 93, 94, 95, 96, 97, 98, 99, 100, 101, 102, 103, 104, 105, 106, 107, 108, 109, 110, 111, 112, 113, 114, 115, 116, 117, 118, 119, 120, 121, 122, 123, 124, 125, 126, 127, 128] kpA (by (try dsimp only); repeat (first | with_reducible exact Gv.nil | (with_reducible apply Gv.cons; · (repeat (first | with_reducible exact Ext.here | with_reducible apply Ext.there))))) ?_ ?_ Sub.refl ?_
   ·exact ⟨Nat.zero_le _, hdn⟩
   ·(try dsimp only); exact (Wk.cons lkA (Wk.cons lkA (Wk.cons lkA Wk.nil)))
   ·rintro s ⟨hs, hdn⟩ K16 hK16
    simp only [List.cons_append, List.nil_append]
    have hdl2 := done_le (lookP ps) n s
    have hol2 := on_le (lookP ps) n s
    have hsl2 := cS_le (doneC (lookP ps) n s) ((s : Nat) : Int)
    refine WC_seq fun K17 hK17 => ?_
    refine WC_sr fun K18 hK18 => ?_
    refine WL_r (Rd_move rfl) rfl ?_
    refine WL_r (Rd_lssN (j := 32) rfl rfl) rfl ?_
    refine WL_end hK18 ?_
    refine WC_cond rfl (fun hc2 => ?_) (fun hc2 => ?_)
    ·try simp only [dz, ne_eq] at hc2
     refine WC_skip ?_
     refine Ps_next hK17 ?_
     refine WC_seq fun K19 hK19 => ?_
     refine WC_block ?_
     refine WC_sr fun K20 hK20 => ?_
     refine WL_r (Rd_move rfl) rfl ?_
     refine WL_r (Rd_move rfl) rfl ?_
     refine WL_r (Rd_indexT1 s rfl rfl ud67 szR (by omega) (by omega)) rfl ?_
     refine WL_r (Rd_indexT2 n rfl rfl ud65 sz4 (by omega) (by omega)) rfl ?_
     refine WL_r (Rd_load rfl tk4 (v := .bool (tAt t s n)) (hi := tAt_get ht.1 (by omega) (by omega))) rfl ?_
     refine WL_end hK20 ?_
     refine WC_cond rfl (fun hc3 => ?_) (fun hc3 => ?_)
     ·try simp only [dz, ne_eq] at hc3
      have htn : tAt t s n = true := by first | assumption | simp_all
      have hin := tab_in ht hm.2 (by omega) (by omega) htn
      refine WC_sr fun K21 hK21 => ?_
      refine WL_r (Rd_move rfl) rfl ?_
      refine WL_r (Rd_addN (j := 1) rfl rfl) rfl ?_
      refine WL_r (Rd_assign rfl) rfl ?_
      refine WL_end hK21 ?_
      refine WC_sr fun K22 hK22 => ?_
      refine WL_r (Rd_move rfl) rfl ?_
      refine WL_r (Rd_indexB s rfl rfl ud73 sz3 (by omega) (by omega)) rfl ?_
      refine WL_r (Rd_load rfl tk3 (v := .int .i64 (((cS (doneC (lookP ps) n s) ((s : Nat) : Int)) : Nat) : Int)) (hi := cntL_get (by omega))) rfl ?_
      refine WL_r (Rd_addN (j := 1) rfl rfl) rfl ?_
      refine WL_r (Rd_indexB s rfl rfl ud73 sz3 (by omega) (by omega)) rfl ?_
      refine WL_ac0 (Ac_store1 (ys := cntL (doneC (lookP ps) n (s + 1))) rfl rfl sz3 (hl := by rw [Nat.blt_eq, cntL_len]; omega) (hr := cntL_set hnd (by omega) hin)) rfl rfl ?_
      rintro _ _ rfl
      refine WL_end hK22 ?_
      refine WC_sr fun K23 hK23 => ?_
      refine WL_r (Rd_move rfl) rfl ?_
      refine WL_r (Rd_addN (j := 1) rfl rfl) rfl ?_
      refine WL_r (Rd_assign rfl) rfl ?_
      refine WL_end hK23 ?_
      refine WC_sr fun K24 hK24 => ?_
      refine WL_r (Rd_move rfl) rfl ?_
      refine WL_r (Rd_move rfl) rfl ?_
      refine WL_r (Rd_len_sv rfl rfl ud34 (hA := hF)) rfl ?_
      refine WL_r (Rd_geqN rfl rfl) rfl ?_
      refine WL_end hK24 ?_
      refine WC_cond rfl (fun hc4 => ?_) (fun hc4 => ?_)
      ·try simp only [dz, ne_eq] at hc4
       exfalso
       have hq := hg.2 _ hin
       dsimp only at hq
       omega
      ·try simp only [dz, ne_eq] at hc4
       have hdn2 := done_lt hnd hin hdn (by omega)
       refine WC_skip ?_
       refine Ps_next hK19 ?_
       refine WC_region ?_
       rw [on_len hnd hin, done_len hnd hin]
       refine WL_r (Rd_move rfl) rfl ?_
       refine WL_r (Rd_addN (j := 1) rfl rfl) rfl ?_
       refine WL_r (Rd_assign rfl) rfl ?_
       refine WL_nil ?_
       refine Ps_wkB (hK16 (s + 1) (⟨by omega, hdn2⟩) (by omega))
     ·try simp only [dz, ne_eq] at hc3
      have htn : tAt t s n = false := by first | assumption | simp_all
      have hin := tab_out ht hm.2 (by omega) (by omega) htn
      refine WC_skip ?_
      refine Ps_next hK19 ?_
      refine WC_region ?_
      rw [done_no hin, on_no hin]
      rw [done_no hin] at hdn
      refine WL_r (Rd_move rfl) rfl ?_
      refine WL_r (Rd_addN (j := 1) rfl rfl) rfl ?_
      refine WL_r (Rd_assign rfl) rfl ?_
      refine WL_nil ?_
      refine Ps_wkB (hK16 (s + 1) (⟨by omega, hdn⟩) (by omega))
    ·try simp only [dz, ne_eq] at hc2
     obtain rfl : s = 32 := by omega
     rw [done_row hpk] at hdn
     rw [done_row hpk, on_end hpk]
     refine WC_exit ?_
     refine Ps_next hK14 ?_
     refine WC_sr fun K25 hK25 => ?_
     refine WL_r (Rd_move rfl) rfl ?_
     refine WL_r (Rd_gtrN (j := 1) rfl rfl) rfl ?_
     refine WL_end hK25 ?_
     refine WC_cond rfl (fun hc5 => ?_) (fun hc5 => ?_)
     ·try simp only [dz, ne_eq] at hc5
      exfalso
      have hq := hg.1 ((n : Nat) : Int)
      omega
     ·try simp only [dz, ne_eq] at hc5
      refine WC_skip ?_
      refine Ps_next hK12 ?_
      refine WC_region ?_
      refine WL_r (Rd_move rfl) rfl ?_
      refine WL_r (Rd_addN (j := 1) rfl rfl) rfl ?_
      refine WL_r (Rd_assign rfl) rfl ?_
      refine WL_nil ?_
      refine Ps_wkB (hK9 (n + 1) (⟨by omega, cd_step hcd (by omega), hdn⟩) (by omega))
  ·try simp only [dz, ne_eq] at hc1
   obtain rfl : n = 255 := by omega
   rw [done_end hpk]
   refine WC_exit ?_
   refine Ps_next hK7 ?_
   refine WC_seq fun K26 hK26 => ?_
   refine WC_sr fun K27 hK27 => ?_
   refine WL_r (Rd_assign rfl) rfl ?_
   refine WL_end hK27 ?_
   refine WC_block ?_
   refine WC_loopK (σ := Nat) (fun i => [(14, .int .i64 ((i : Nat) : Int))]) (fun i => []) (fun i => i ≤ fl.length ∧ (fl.take i).all chB = true) (fun i => fl.length - i) (0) [1, 2, 9, 10, 15, 16, 17, 18, 19, 20, 21, 67, 68, 69, 70, 71, 72, 73, 74, 75, 76, 77, 78, 79, 80, 81, 82, 83, 84, 85, 86, 87, 88, 89, 90, 91, 92, 93, 94, 95, 96, 97, 98, 99, 100, 101, 102, 103, 104, 105, 106, 107, 108, 109, 110, 111, 112, 113, 114, 115, 116, 117, 118, 119, 120, 121, 122, 123, 124, 125, 126, 127, 128] kpA (by (try dsimp only); repeat (first | with_reducible exact Gv.nil | (with_reducible apply Gv.cons; · (repeat (first | with_reducible exact Ext.here | with_reducible apply Ext.there))))) ?_ ?_ Sub.refl ?_
   ·exact ⟨Nat.zero_le _, rfl⟩
   ·(try dsimp only); exact (Wk.cons lkA Wk.nil)
   ·rintro i ⟨hi, hal⟩ K28 hK28
    simp only [List.cons_append, List.nil_append]
    refine WC_seq fun K29 hK29 => ?_
    refine WC_sr fun K30 hK30 => ?_
    refine WL_r (Rd_move rfl) rfl ?_
    refine WL_r (Rd_move rfl) rfl ?_
    refine WL_r (Rd_len_sv rfl rfl ud34 (hA := hF)) rfl ?_
    refine WL_r (Rd_lssN rfl rfl) rfl ?_
    refine WL_end hK30 ?_
    refine WC_cond rfl (fun hc6 => ?_) (fun hc6 => ?_)
    ·try simp only [dz, ne_eq] at hc6
     obtain ⟨x, hx⟩ : ∃ x, fl[i]? = some x := ⟨_, List.getElem?_eq_getElem (by omega)⟩
     refine WC_skip ?_
     refine Ps_next hK29 ?_
     refine WC_seq fun K31 hK31 => ?_
     refine WC_block ?_
     refine WC_sr fun K32 hK32 => ?_
     refine WL_r (Rd_move rfl) rfl ?_
     refine WL_r (Rd_move rfl) rfl ?_
     refine WL_r (Rd_index_sv i rfl rfl ud34 sz35 (hA := hF) (hi := by omega)) rfl ?_
     refine WL_r (Rd_load_sv (i := i) (j := 0) (y := x) rfl tk35 (hA := hF) (hl := hx) (hv := rfl)) rfl ?_
     refine WL_ac (Ac_call cf43 rfl (hs := chance_ct (x := x))) rfl rfl rfl ?_
     rintro _ _ ⟨⟨⟩, rfl, hA⟩
     simp only [List.cons_append, List.nil_append] at hA
     replace hA := hA.symm
     subst hA
     refine WL_r (Rd_not rfl) rfl ?_
     refine WL_end hK32 ?_
     refine WC_cond rfl (fun hc7 => ?_) (fun hc7 => ?_)
     ·try simp only [dz, ne_eq] at hc7
      refine WC_sr fun K33 hK33 => ?_
      refine WL_r (Rd_assign rfl) rfl ?_
      refine WL_r (Rd_assign rfl) rfl ?_
      refine WL_end hK33 ?_
      refine WC_ret ?_
      exact hret.gf () (Rs2 rfl rfl rfl)
     ·try simp only [dz, ne_eq] at hc7
      have hch : chB x = true := by first | assumption | simp_all
      refine WC_skip ?_
      refine Ps_next hK31 ?_
      refine WC_region ?_
      refine WL_r (Rd_move rfl) rfl ?_
      refine WL_r (Rd_addN (j := 1) rfl rfl) rfl ?_
      refine WL_r (Rd_assign rfl) rfl ?_
      refine WL_nil ?_
      refine Ps_wkB (hK28 (i + 1) (⟨by omega, all_snoc hx hal hch⟩) (by omega))
    ·try simp only [dz, ne_eq] at hc6
     obtain rfl : i = fl.length := by omega
     rw [List.take_length] at hal
     unfold oddsOk at ho
     rw [ho] at hal
     cases hal

theorem lasts3_ok {X : Asn} {v w : Value} {ps : List Pr} {ao : Option Addr} {cap : Nat} {fl : List Nat} {ao2 : Option Addr} {cap2 : Nat} {k0 : Int} (hS : Sv [X] v 2 ePr ps ao cap) (hF : Sv [X] w 1 eF fl ao2 cap2) (hn : ps.length ≤ 100000000) (hn2 : fl.length ≤ 100000000) (hm : mayP ps) (hg : goodL (lookP ps) fl.length) (hw : ∀ x ∈ fl, x < 2 ^ 64) (ho : oddsOk fl = true) : Ct Try.prog 22 [v, w, .int .i64 k0] [X] (fun _ : Unit => .tuple #[.float .f64 (lastP (lookP ps) fl k0), .int .i64 0]) (fun _ => [X]) := by
 refine Ct_body (n := 129) Try.func22 rfl rfl rfl fun F w0 Q hret hnorm hp => ?_
 change WC _ _ _ _ _ _ _ (_ :: F)
 have hpl := lookP_len ps
 have hpk := lookP_ok ps
 have hnd := pw_nodup (lookP_pw ps)
 have hU := oddsOk_U hw ho
 refine WC_sr fun K1 hK1 => ?_
 refine WL_r (Rd_assign rfl) rfl ?_
 refine WL_r (Rd_assign rfl) rfl ?_
 refine WL_end hK1 ?_
 refine WC_seq fun K2 hK2 => ?_
 refine WC_sr fun K3 hK3 => ?_
 refine WL_r (Rd_move rfl) rfl ?_
 refine WL_ac (Ac_call cf18 rfl (hs := May_ct (X := X) (ps := ps) hS hn)) rfl rfl rfl ?_
 rintro _ _ ⟨⟨⟩, rfl, hA⟩
 simp only [List.cons_append, List.nil_append] at hA
 replace hA := hA.symm
 subst hA
 rw [show decide (mayP ps) = true from decide_eq_true hm]
 refine WL_r (Rd_not rfl) rfl ?_
 refine WL_end hK3 ?_
 refine WC_condF rfl ?_
 refine WC_skip ?_
 refine Ps_next hK2 ?_
 refine WC_sr fun K4 hK4 => ?_
 refine WL_r (Rd_move rfl) rfl ?_
 refine WL_ac (Ac_call cf40 rfl (hs := table_ct (X := X) (ps := ps) hS hn hm.2)) rfl rfl rfl ?_
 rintro _ _ ⟨⟨t, ht⟩, rfl, hA⟩
 simp only [List.cons_append, List.nil_append] at hA
 replace hA := hA.symm
 subst hA
 refine WL_ac (Ac_alloc zrT) rfl rfl rfl ?_
 rintro _ _ ⟨b8, rfl, rfl⟩
 refine WL_ac0 (Ac_store (ys := t.map Value.bool) rfl rfl szT (hv := tb_sz ht.1) (hl := tb_le) (h1 := tb_one) (hr := tb_put)) rfl rfl ?_
 rintro _ _ rfl
 refine WL_end hK4 ?_
 refine WC_sr fun K5 hK5 => ?_
 refine WL_ac (Ac_alloc zrC) rfl rfl rfl ?_
 rintro _ _ ⟨b9, rfl, rfl⟩
 rw [show cntL [] = cntL (doneC (lookP ps) 0 0) from by rw [done_0 hpk]]
 refine WL_end hK5 ?_
 refine WC_sr fun K6 hK6 => ?_
 refine WL_r (Rd_valE (v := .int .i64 (((doneC (lookP ps) 0 0).length : Nat) : Int)) (Rd_assign rfl) (by rw [done_0 hpk] <;> rfl)) rfl ?_
 refine WL_end hK6 ?_
 refine WC_seq fun K7 hK7 => ?_
 refine WC_sr fun K8 hK8 => ?_
 refine WL_r (Rd_assign rfl) rfl ?_
 refine WL_end hK8 ?_
 refine WC_block ?_
 refine WC_loopK (σ := Nat) (fun n => [(10, .int .i64 (((doneC (lookP ps) n 0).length : Nat) : Int)), (11, .int .i64 ((n : Nat) : Int))]) (fun n => [cl b9 73 (cntL (doneC (lookP ps) n 0))]) (fun n => n ≤ 255 ∧ (∀ x : Nat, x < n → cD (lookP ps) ((x : Nat) : Int) ≤ 1) ∧ (∀ q ∈ (doneC (lookP ps) n 0), q.1 < ((fl.length : Nat) : Int))) (fun n => 255 - n) (0) [1, 2, 8, 9, 14, 15, 16, 17, 18, 19, 20, 21, 55, 56, 57, 58, 59, 60, 61, 62, 63, 64, 65, 66, 67, 68, 69, 70, 71, 72, 73, 74, 75, 76, 77, 78, 79, 80, 81, 82, 83, 84, 85, 86, 87, 88, 89, 90, 91, 92, 93, 94, 95, 96, 97, 98, 99, 100, 101, 102, 103, 104, 105, 106, 107, 108, 109, 110, 111, 112, 113, 114, 115, 116, 117, 118, 119, 120, 121, 122, 123, 124, 125, 126, 127, 128] kpA (by (try dsimp only); repeat (first | with_reducible exact Gv.nil | (with_reducible apply Gv.cons; · (repeat (first | with_reducible exact Ext.here | with_reducible apply Ext.there))))) ?_ ?_ Sub.refl ?_
 ·exact ⟨Nat.zero_le _, fun x h => absurd h (by omega), fun q h => by rw [done_0 hpk] at h; cases h⟩
 ·(try dsimp only); exact (Wk.cons lkA (Wk.cons lkA Wk.nil))
 ·rintro n ⟨hn1, hcd, hdn⟩ K9 hK9
  simp only [List.cons_append, List.nil_append]
  have hdl := done_le (lookP ps) n 0
  refine WC_seq fun K10 hK10 => ?_
  refine WC_sr fun K11 hK11 => ?_
  refine WL_r (Rd_move rfl) rfl ?_
  refine WL_r (Rd_lssN (j := 255) rfl rfl) rfl ?_
  refine WL_end hK11 ?_
  refine WC_cond rfl (fun hc1 => ?_) (fun hc1 => ?_)
  ·try simp only [dz, ne_eq] at hc1
   refine WC_skip ?_
   refine Ps_next hK10 ?_
   refine WC_seq fun K12 hK12 => ?_
   refine WC_block ?_
   refine WC_sr fun K13 hK13 => ?_
   refine WL_r (Rd_valE (v := .int .i64 (((onC (lookP ps) n 0).length : Nat) : Int)) (Rd_assign rfl) (by rw [on_0 hpk] <;> rfl)) rfl ?_
   refine WL_end hK13 ?_
   refine WC_seq fun K14 hK14 => ?_
   refine WC_sr fun K15 hK15 => ?_
   refine WL_r (Rd_assign rfl) rfl ?_
   refine WL_end hK15 ?_
   refine WC_block ?_
   refine WC_loopK (σ := Nat) (fun s => [(10, .int .i64 (((doneC (lookP ps) n s).length : Nat) : Int)), (12, .int .i64 (((onC (lookP ps) n s).length : Nat) : Int)), (13, .int .i64 ((s : Nat) : Int))]) (fun s => [cl b9 73 (cntL (doneC (lookP ps) n s))]) (fun s => s ≤ 32 ∧ (∀ q ∈ (doneC (lookP ps) n s), q.1 < ((fl.length : Nat) : Int))) (fun s => 32 - s) (0) [1, 2, 8, 9, 11, 14, 15, 16, 17, 18, 19, 20, 21, 27, 28, 29, 30, 53, 54, 55, 56, 57, 58, 59, 60, 61, 62, 63, 64, 65, 66, 67, 68, 69, 70, 71, 72, 73, 74, 75, 76, 77, 78, 79, 80, 81, 82, 83, 84, 85, 86, 87, 88, 89, 90, 91, 92, 93, 94, 95, 96, 97, 98, 99, 100, 101, 102, 103, 104, 105, 106, 107, 108, 109, 110, 111, 112, 113, 114, 115, 116, 117, 118, 119, 120, 121, 122, 123, 124, 125, 126, 127, 128] kpA (by (try dsimp only); repeat (first | with_reducible exact Gv.nil | (with_reducible apply Gv.cons; · (repeat (first | with_reducible exact Ext.here | with_reducible apply Ext.there))))) ?_ ?_ Sub.refl ?_
   ·exact ⟨Nat.zero_le _, hdn⟩
   ·(try dsimp only); exact (Wk.cons lkA (Wk.cons lkA (Wk.cons lkA Wk.nil)))
   ·rintro s ⟨hs, hdn⟩ K16 hK16
    simp only [List.cons_append, List.nil_append]
    have hdl2 := done_le (lookP ps) n s
    have hol2 := on_le (lookP ps) n s
    have hsl2 := cS_le (doneC (lookP ps) n s) ((s : Nat) : Int)
    refine WC_seq fun K17 hK17 => ?_
    refine WC_sr fun K18 hK18 => ?_
    refine WL_r (Rd_move rfl) rfl ?_
    refine WL_r (Rd_lssN (j := 32) rfl rfl) rfl ?_
    refine WL_end hK18 ?_
    refine WC_cond rfl (fun hc2 => ?_) (fun hc2 => ?_)
    ·try simp only [dz, ne_eq] at hc2
     refine WC_skip ?_
     refine Ps_next hK17 ?_
     refine WC_seq fun K19 hK19 => ?_
     refine WC_block ?_
     refine WC_sr fun K20 hK20 => ?_
     refine WL_r (Rd_move rfl) rfl ?_
     refine WL_r (Rd_move rfl) rfl ?_
     refine WL_r (Rd_indexT1 s rfl rfl ud67 szR (by omega) (by omega)) rfl ?_
     refine WL_r (Rd_indexT2 n rfl rfl ud65 sz4 (by omega) (by omega)) rfl ?_
     refine WL_r (Rd_load rfl tk4 (v := .bool (tAt t s n)) (hi := tAt_get ht.1 (by omega) (by omega))) rfl ?_
     refine WL_end hK20 ?_
     refine WC_cond rfl (fun hc3 => ?_) (fun hc3 => ?_)
     ·try simp only [dz, ne_eq] at hc3
      have htn : tAt t s n = true := by first | assumption | simp_all
      have hin := tab_in ht hm.2 (by omega) (by omega) htn
      refine WC_sr fun K21 hK21 => ?_
      refine WL_r (Rd_move rfl) rfl ?_
      refine WL_r (Rd_addN (j := 1) rfl rfl) rfl ?_
      refine WL_r (Rd_assign rfl) rfl ?_
      refine WL_end hK21 ?_
      refine WC_sr fun K22 hK22 => ?_
      refine WL_r (Rd_move rfl) rfl ?_
      refine WL_r (Rd_indexB s rfl rfl ud73 sz3 (by omega) (by omega)) rfl ?_
      refine WL_r (Rd_load rfl tk3 (v := .int .i64 (((cS (doneC (lookP ps) n s) ((s : Nat) : Int)) : Nat) : Int)) (hi := cntL_get (by omega))) rfl ?_
      refine WL_r (Rd_addN (j := 1) rfl rfl) rfl ?_
      refine WL_r (Rd_indexB s rfl rfl ud73 sz3 (by omega) (by omega)) rfl ?_
      refine WL_ac0 (Ac_store1 (ys := cntL (doneC (lookP ps) n (s + 1))) rfl rfl sz3 (hl := by rw [Nat.blt_eq, cntL_len]; omega) (hr := cntL_set hnd (by omega) hin)) rfl rfl ?_
      rintro _ _ rfl
      refine WL_end hK22 ?_
      refine WC_sr fun K23 hK23 => ?_
      refine WL_r (Rd_move rfl) rfl ?_
      refine WL_r (Rd_addN (j := 1) rfl rfl) rfl ?_
      refine WL_r (Rd_assign rfl) rfl ?_
      refine WL_end hK23 ?_
      refine WC_sr fun K24 hK24 => ?_
      refine WL_r (Rd_move rfl) rfl ?_
      refine WL_r (Rd_move rfl) rfl ?_
      refine WL_r (Rd_len_sv rfl rfl ud34 (hA := hF)) rfl ?_
      refine WL_r (Rd_geqN rfl rfl) rfl ?_
      refine WL_end hK24 ?_
      refine WC_cond rfl (fun hc4 => ?_) (fun hc4 => ?_)
      ·try simp only [dz, ne_eq] at hc4
       exfalso
       have hq := hg.2 _ hin
       dsimp only at hq
       omega
      ·try simp only [dz, ne_eq] at hc4
       have hdn2 := done_lt hnd hin hdn (by omega)
       refine WC_skip ?_
       refine Ps_next hK19 ?_
       refine WC_region ?_
       rw [on_len hnd hin, done_len hnd hin]
       refine WL_r (Rd_move rfl) rfl ?_
       refine WL_r (Rd_addN (j := 1) rfl rfl) rfl ?_
       refine WL_r (Rd_assign rfl) rfl ?_
       refine WL_nil ?_
       refine Ps_wkB (hK16 (s + 1) (⟨by omega, hdn2⟩) (by omega))
     ·try simp only [dz, ne_eq] at hc3
      have htn : tAt t s n = false := by first | assumption | simp_all
      have hin := tab_out ht hm.2 (by omega) (by omega) htn
      refine WC_skip ?_
      refine Ps_next hK19 ?_
      refine WC_region ?_
      rw [done_no hin, on_no hin]
      rw [done_no hin] at hdn
      refine WL_r (Rd_move rfl) rfl ?_
      refine WL_r (Rd_addN (j := 1) rfl rfl) rfl ?_
      refine WL_r (Rd_assign rfl) rfl ?_
      refine WL_nil ?_
      refine Ps_wkB (hK16 (s + 1) (⟨by omega, hdn⟩) (by omega))
    ·try simp only [dz, ne_eq] at hc2
     obtain rfl : s = 32 := by omega
     rw [done_row hpk] at hdn
     rw [done_row hpk, on_end hpk]
     refine WC_exit ?_
     refine Ps_next hK14 ?_
     refine WC_sr fun K25 hK25 => ?_
     refine WL_r (Rd_move rfl) rfl ?_
     refine WL_r (Rd_gtrN (j := 1) rfl rfl) rfl ?_
     refine WL_end hK25 ?_
     refine WC_cond rfl (fun hc5 => ?_) (fun hc5 => ?_)
     ·try simp only [dz, ne_eq] at hc5
      exfalso
      have hq := hg.1 ((n : Nat) : Int)
      omega
     ·try simp only [dz, ne_eq] at hc5
      refine WC_skip ?_
      refine Ps_next hK12 ?_
      refine WC_region ?_
      refine WL_r (Rd_move rfl) rfl ?_
      refine WL_r (Rd_addN (j := 1) rfl rfl) rfl ?_
      refine WL_r (Rd_assign rfl) rfl ?_
      refine WL_nil ?_
      refine Ps_wkB (hK9 (n + 1) (⟨by omega, cd_step hcd (by omega), hdn⟩) (by omega))
  ·try simp only [dz, ne_eq] at hc1
   obtain rfl : n = 255 := by omega
   rw [done_end hpk]
   refine WC_exit ?_
   refine Ps_next hK7 ?_
   refine WC_seq fun K26 hK26 => ?_
   refine WC_sr fun K27 hK27 => ?_
   refine WL_r (Rd_assign rfl) rfl ?_
   refine WL_end hK27 ?_
   refine WC_block ?_
   refine WC_loopK (σ := Nat) (fun i => [(14, .int .i64 ((i : Nat) : Int))]) (fun i => []) (fun i => i ≤ fl.length ∧ (fl.take i).all chB = true) (fun i => fl.length - i) (0) [1, 2, 9, 10, 15, 16, 17, 18, 19, 20, 21, 67, 68, 69, 70, 71, 72, 73, 74, 75, 76, 77, 78, 79, 80, 81, 82, 83, 84, 85, 86, 87, 88, 89, 90, 91, 92, 93, 94, 95, 96, 97, 98, 99, 100, 101, 102, 103, 104, 105, 106, 107, 108, 109, 110, 111, 112, 113, 114, 115, 116, 117, 118, 119, 120, 121, 122, 123, 124, 125, 126, 127, 128] kpA (by (try dsimp only); repeat (first | with_reducible exact Gv.nil | (with_reducible apply Gv.cons; · (repeat (first | with_reducible exact Ext.here | with_reducible apply Ext.there))))) ?_ ?_ Sub.refl ?_
   ·exact ⟨Nat.zero_le _, rfl⟩
   ·(try dsimp only); exact (Wk.cons lkA Wk.nil)
   ·rintro i ⟨hi, hal⟩ K28 hK28
    simp only [List.cons_append, List.nil_append]
    refine WC_seq fun K29 hK29 => ?_
    refine WC_sr fun K30 hK30 => ?_
    refine WL_r (Rd_move rfl) rfl ?_
    refine WL_r (Rd_move rfl) rfl ?_
    refine WL_r (Rd_len_sv rfl rfl ud34 (hA := hF)) rfl ?_
    refine WL_r (Rd_lssN rfl rfl) rfl ?_
    refine WL_end hK30 ?_
    refine WC_cond rfl (fun hc6 => ?_) (fun hc6 => ?_)
    ·try simp only [dz, ne_eq] at hc6
     obtain ⟨x, hx⟩ : ∃ x, fl[i]? = some x := ⟨_, List.getElem?_eq_getElem (by omega)⟩
     refine WC_skip ?_
     refine Ps_next hK29 ?_
     refine WC_seq fun K31 hK31 => ?_
     refine WC_block ?_
     refine WC_sr fun K32 hK32 => ?_
     refine WL_r (Rd_move rfl) rfl ?_
     refine WL_r (Rd_move rfl) rfl ?_
     refine WL_r (Rd_index_sv i rfl rfl ud34 sz35 (hA := hF) (hi := by omega)) rfl ?_
     refine WL_r (Rd_load_sv (i := i) (j := 0) (y := x) rfl tk35 (hA := hF) (hl := hx) (hv := rfl)) rfl ?_
     refine WL_ac (Ac_call cf43 rfl (hs := chance_ct (x := x))) rfl rfl rfl ?_
     rintro _ _ ⟨⟨⟩, rfl, hA⟩
     simp only [List.cons_append, List.nil_append] at hA
     replace hA := hA.symm
     subst hA
     refine WL_r (Rd_not rfl) rfl ?_
     refine WL_end hK32 ?_
     refine WC_cond rfl (fun hc7 => ?_) (fun hc7 => ?_)
     ·try simp only [dz, ne_eq] at hc7
      exact absurd (all_no hx (by first | assumption | simp_all)) (by rw [ho]; decide)
     ·try simp only [dz, ne_eq] at hc7
      have hch : chB x = true := by first | assumption | simp_all
      refine WC_skip ?_
      refine Ps_next hK31 ?_
      refine WC_region ?_
      refine WL_r (Rd_move rfl) rfl ?_
      refine WL_r (Rd_addN (j := 1) rfl rfl) rfl ?_
      refine WL_r (Rd_assign rfl) rfl ?_
      refine WL_nil ?_
      refine Ps_wkB (hK28 (i + 1) (⟨by omega, all_snoc hx hal hch⟩) (by omega))
    ·try simp only [dz, ne_eq] at hc6
     obtain rfl : i = fl.length := by omega
     rw [List.take_length] at hal
     refine WC_exit ?_
     refine Ps_next hK26 ?_
     refine WC_sr fun K33 hK33 => ?_
     refine WL_r (Rd_move rfl) rfl ?_
     refine WL_r (Rd_addN (j := 1) rfl rfl) rfl ?_
     refine WL_ac (Ac_make (f := eF) encF 0 rfl rfl ud34 el35 zr35) rfl rfl rfl ?_
     rintro _ _ ⟨b69, rfl, rfl⟩
     refine WL_r (Rd_assign rfl) rfl ?_
     refine WL_end hK33 ?_
     refine WC_sr fun K34 hK34 => ?_
     refine WL_r (Rd_move rfl) rfl ?_
     refine WL_r (Rd_index 0 rfl rfl ud34 sz35 (hj := by omega)) rfl ?_
     refine WL_ac0 (Ac_store_arr ONE rfl rfl sz35 (i := 0) (j := 0) (hl := by rw [List.replicate_succ]; rfl)) rfl rfl ?_
     rintro _ _ rfl
     rw [show (List.replicate ((lookP ps).length + 1) 0).set 0 ONE = begP (lookP ps).length from rfl]
     refine WL_end hK34 ?_
     refine WC_seq fun K35 hK35 => ?_
     refine WC_sr fun K36 hK36 => ?_
     refine WL_r (Rd_assign rfl) rfl ?_
     refine WL_end hK36 ?_
     refine WC_block ?_
     rw [show arr (some b69) ((lookP ps).length + 1) 1 35 eF (begP (lookP ps).length) = arr (some b69) ((lookP ps).length + 1) 1 35 eF (lasT (lookP ps) (begP (lookP ps).length) (fl.take 0)) from rfl]
     refine WC_loopK (σ := Nat) (fun s => [(16, .int .i64 ((s : Nat) : Int))]) (fun s => [arr (some b69) ((lookP ps).length + 1) 1 35 eF (lasT (lookP ps) (begP (lookP ps).length) (fl.take s))]) (fun s => s ≤ 32) (fun s => 32 - s) (0) [1, 2, 6, 7, 9, 10, 15, 126, 127, 128] kpA (by (try dsimp only); repeat (first | with_reducible exact Gv.nil | (with_reducible apply Gv.cons; · (repeat (first | with_reducible exact Ext.here | with_reducible apply Ext.there))))) ?_ ?_ Sub.refl ?_
     ·exact Nat.zero_le _
     ·(try dsimp only); exact (Wk.cons lkA Wk.nil)
     ·rintro s hs K37 hK37
      simp only [List.cons_append, List.nil_append]
      refine WC_seq fun K38 hK38 => ?_
      refine WC_sr fun K39 hK39 => ?_
      refine WL_r (Rd_move rfl) rfl ?_
      refine WL_r (Rd_lssN (j := 32) rfl rfl) rfl ?_
      refine WL_end hK39 ?_
      refine WC_cond rfl (fun hc8 => ?_) (fun hc8 => ?_)
      ·try simp only [dz, ne_eq] at hc8
       refine WC_skip ?_
       refine Ps_next hK38 ?_
       refine WC_seq fun K40 hK40 => ?_
       refine WC_block ?_
       refine WC_sr fun K41 hK41 => ?_
       refine WL_r (Rd_move rfl) rfl ?_
       refine WL_r (Rd_indexB s rfl rfl ud73 sz3 (by omega) (by omega)) rfl ?_
       refine WL_r (Rd_load rfl tk3 (v := .int .i64 (((cS (lookP ps) ((s : Nat) : Int)) : Nat) : Int)) (hi := cntL_get (by omega))) rfl ?_
       refine WL_r (Rd_assign rfl) rfl ?_
       refine WL_end hK41 ?_
       refine WC_seq fun K42 hK42 => ?_
       refine WC_sr fun K43 hK43 => ?_
       refine WL_r (Rd_move rfl) rfl ?_
       refine WL_r (Rd_eqlN (j := 0) rfl rfl) rfl ?_
       refine WL_end hK43 ?_
       refine WC_cond rfl (fun hc9 => ?_) (fun hc9 => ?_)
       ·try simp only [dz, ne_eq] at hc9
        rw [lasT_no1 (l := (lookP ps)) (p := begP (lookP ps).length) (fl := fl) (s := s) (by omega)]
        refine WC_exit ?_
        refine Ps_next hK40 ?_
        refine WC_region ?_
        refine WL_r (Rd_move rfl) rfl ?_
        refine WL_r (Rd_addN (j := 1) rfl rfl) rfl ?_
        refine WL_r (Rd_assign rfl) rfl ?_
        refine WL_nil ?_
        refine Ps_wkB (hK37 (s + 1) (by omega) (by omega))
       ·try simp only [dz, ne_eq] at hc9
        obtain ⟨z, hz, hzs⟩ := cS_pos (l := (lookP ps)) (x := ((s : Nat) : Int)) (by omega)
        have hzg := hg.2 z hz
        have hcb := cS_le (lookP ps) ((s : Nat) : Int)
        obtain ⟨x, hx⟩ : ∃ x, fl[s]? = some x := ⟨_, List.getElem?_eq_getElem (by omega)⟩
        have hUx := hU x (List.mem_of_getElem? hx)
        have hy := fsub_ok hUx
        have hpU : Un (lasT (lookP ps) (begP (lookP ps).length) (fl.take s)) := lasT_un _ (begP_un _) fun y hy => hU y (List.mem_of_mem_take hy)
        have hpl2 : (lasT (lookP ps) (begP (lookP ps).length) (fl.take s)).length = ((lookP ps).length + 1) := by rw [lasT_len, begP_len]
        have htl := takenM_len (lasT (lookP ps) (begP (lookP ps).length) (fl.take s)) (cS (lookP ps) ((s : Nat) : Int)) x
        refine WC_skip ?_
        refine Ps_next hK42 ?_
        refine WC_sr fun K44 hK44 => ?_
        refine WL_r (Rd_move rfl) rfl ?_
        refine WL_r (Rd_move rfl) rfl ?_
        refine WL_r (Rd_index_sv s rfl rfl ud34 sz35 (hA := hF) (hi := by omega)) rfl ?_
        refine WL_r (Rd_load_sv (i := s) (j := 0) (y := x) rfl tk35 (hA := hF) (hl := hx) (hv := rfl)) rfl ?_
        refine WL_r (Rd_assign rfl) rfl ?_
        refine WL_end hK44 ?_
        refine WC_sr fun K45 hK45 => ?_
        refine WL_r (Rd_move rfl) rfl ?_
        refine WL_r (Rd_valE (v := .float .f64 (fsub ONE x)) (Rd_fop (a := ONE) rfl rfl hy.1) (rfl)) rfl ?_
        refine WL_r (Rd_assign rfl) rfl ?_
        refine WL_end hK45 ?_
        refine WC_seq fun K46 hK46 => ?_
        refine WC_sr fun K47 hK47 => ?_
        refine WL_r (Rd_move rfl) rfl ?_
        refine WL_r (Rd_assign rfl) rfl ?_
        refine WL_end hK47 ?_
        refine WC_block ?_
        rw [show arr (some b69) ((lookP ps).length + 1) 1 35 eF (lasT (lookP ps) (begP (lookP ps).length) (fl.take s)) = arr (some b69) ((lookP ps).length + 1) 1 35 eF (mixL (lasT (lookP ps) (begP (lookP ps).length) (fl.take s)) (takenM (lasT (lookP ps) (begP (lookP ps).length) (fl.take s)) (cS (lookP ps) ((s : Nat) : Int)) x) ((lookP ps).length + 1)) from by rw [← hpl2, mixL_all htl]]
        refine WC_loopK (σ := Nat) (fun m => [(20, .int .i64 ((m : Nat) : Int))]) (fun m => [arr (some b69) ((lookP ps).length + 1) 1 35 eF (mixL (lasT (lookP ps) (begP (lookP ps).length) (fl.take s)) (takenM (lasT (lookP ps) (begP (lookP ps).length) (fl.take s)) (cS (lookP ps) ((s : Nat) : Int)) x) (m + 1))]) (fun m => (cS (lookP ps) ((s : Nat) : Int)) - 1 ≤ m ∧ m ≤ (lookP ps).length) (fun m => m) ((lookP ps).length) [1, 2, 6, 7, 9, 10, 15, 16, 17, 18, 19, 21, 72, 73, 74, 75, 76, 77, 78, 79, 80, 81, 82, 83, 84, 85, 86, 87, 111, 112, 113, 114, 115, 116, 117, 118, 119, 120, 121, 122, 123, 124, 125, 126, 127, 128] kpA (by (try dsimp only); repeat (first | with_reducible exact Gv.nil | (with_reducible apply Gv.cons; · (repeat (first | with_reducible exact Ext.here | with_reducible apply Ext.there))))) ?_ ?_ Sub.refl ?_
        ·exact (by omega)
        ·(try dsimp only); exact (Wk.cons lkA Wk.nil)
        ·rintro m hm4 K48 hK48
         simp only [List.cons_append, List.nil_append]
         refine WC_seq fun K49 hK49 => ?_
         refine WC_sr fun K50 hK50 => ?_
         refine WL_r (Rd_move rfl) rfl ?_
         refine WL_r (Rd_move rfl) rfl ?_
         refine WL_r (Rd_geqN rfl rfl) rfl ?_
         refine WL_end hK50 ?_
         refine WC_cond rfl (fun hc10 => ?_) (fun hc10 => ?_)
         ·try simp only [dz, ne_eq] at hc10
          obtain ⟨k, rfl⟩ : ∃ k, m = k + 1 := ⟨m - 1, by omega⟩
          refine WC_skip ?_
          refine Ps_next hK49 ?_
          refine WC_seq fun K51 hK51 => ?_
          refine WC_block ?_
          refine WC_drawA mix (fun i => ([2, 2, 2, 2, 2, 2, 2, 2, 2, 2, 2, 2, 2, 2, 2, 2, 2, 2, 0] : List Nat).getD i 0) ?_
          refine WJ_tp 0 rfl (Rd_move rfl) rfl (hp _ _) ?_
          refine WJ_tp 1 rfl (Rd_move rfl) rfl (hp _ _) ?_
          refine WJ_tp 2 rfl (Rd_move rfl) rfl (hp _ _) ?_
          refine WJ_tp 3 rfl (Rd_move rfl) rfl (hp _ _) ?_
          refine WJ_tp 4 rfl (Rd_index (k + 1) rfl rfl ud34 sz35 (hj := by omega)) rfl (hp _ _) ?_
          refine WJ_tk 5 (Rd_load_arr (i := k + 1) (j := 0) rfl tk35 (hl := mixL_lo (by omega) (by omega))) hp ?_ rfl (by kernel_rfl) rfl rfl rfl
          refine WJ_tp 6 rfl (Rd_move rfl) rfl (hp _ _) ?_
          refine WJ_tp 7 rfl (Rd_fop rfl rfl (fmul_y (hpU.at (k + 1)) hUx).1) rfl (hp _ _) ?_
          refine WJ_tp 8 rfl (Rd_move rfl) rfl (hp _ _) ?_
          refine WJ_tp 9 rfl (Rd_move rfl) rfl (hp _ _) ?_
          refine WJ_tp 10 rfl (Rd_move rfl) rfl (hp _ _) ?_
          refine WJ_tp 11 rfl (Rd_subN rfl rfl) rfl (hp _ _) ?_
          refine WJ_tp 12 rfl (Rd_index (k + 1 - (cS (lookP ps) ((s : Nat) : Int))) rfl rfl ud34 sz35 (hj := by omega)) rfl (hp _ _) ?_
          refine WJ_tk 13 (Rd_load_arr (i := k + 1 - (cS (lookP ps) ((s : Nat) : Int))) (j := 0) rfl tk35 (hl := mixL_lo (by omega) (by omega))) hp ?_ rfl (by kernel_rfl) rfl rfl rfl
          refine WJ_tp 14 rfl (Rd_move rfl) rfl (hp _ _) ?_
          refine WJ_tp 15 rfl (Rd_fop rfl rfl (fmul_x (hpU.at (k + 1 - (cS (lookP ps) ((s : Nat) : Int)))) hUx)) rfl (hp _ _) ?_
          refine WJ_tp 16 rfl (Rd_fop rfl rfl (fadd_xy (hpU.at (k + 1)) (hpU.at (k + 1 - (cS (lookP ps) ((s : Nat) : Int)))) hUx).1) rfl (hp _ _) ?_
          refine WJ_tp 17 rfl (Rd_index (k + 1) rfl rfl ud34 sz35 (hj := by omega)) rfl (hp _ _) ?_
          refine WJ_all (rs := [18]) (by kernel_rfl) rfl ?_
          refine WI_one ?_
          refine WI_ac0 rfl (Ac_store_arr (fadd (fmul ((lasT (lookP ps) (begP (lookP ps).length) (fl.take s)).getD (k + 1) 0) (fsub ONE x)) (fmul ((lasT (lookP ps) (begP (lookP ps).length) (fl.take s)).getD (k + 1 - (cS (lookP ps) ((s : Nat) : Int))) 0) x)) rfl rfl sz35 (i := k + 1) (j := 0) (hl := mixL_lo (by omega) (by omega))) rfl rfl rfl ?_
          rintro _ _ rfl
          refine ⟨(fun h => by cases h), ?_⟩
          refine WJ_done (by kernel_rfl) ?_
          refine Ps_next hK51 ?_
          refine WC_region ?_
          rw [mixL_set htl (by omega) (by rw [takenM_at (by omega)]; unfold takeAt; rw [if_pos (by omega)])]
          refine WL_r (Rd_move rfl) rfl ?_
          refine WL_r (Rd_subN (j := 1) rfl rfl) rfl ?_
          refine WL_r (Rd_assign rfl) rfl ?_
          refine WL_nil ?_
          refine Ps_wkB (hK48 (k) (by omega) (by omega))
         ·try simp only [dz, ne_eq] at hc10
          obtain rfl : m = (cS (lookP ps) ((s : Nat) : Int)) - 1 := by omega
          rw [show (cS (lookP ps) ((s : Nat) : Int)) - 1 + 1 = (cS (lookP ps) ((s : Nat) : Int)) by omega]
          refine WC_exit ?_
          refine Ps_next hK46 ?_
          refine WC_sr fun K52 hK52 => ?_
          refine WL_r (Rd_move rfl) rfl ?_
          refine WL_r (Rd_subN (j := 1) rfl rfl) rfl ?_
          refine WL_r (Rd_valE (v := .int .i64 ((((cS (lookP ps) ((s : Nat) : Int)) : Nat) : Int) - 1)) (Rd_assign rfl) (by congr 1; omega)) rfl ?_
          refine WL_end hK52 ?_
          refine WC_block ?_
          refine WC_loopK (σ := Nat) (fun q => [(21, .int .i64 (((q : Nat) : Int) - 1))]) (fun q => [arr (some b69) ((lookP ps).length + 1) 1 35 eF (mixL (lasT (lookP ps) (begP (lookP ps).length) (fl.take s)) (takenM (lasT (lookP ps) (begP (lookP ps).length) (fl.take s)) (cS (lookP ps) ((s : Nat) : Int)) x) q)]) (fun q => q ≤ (cS (lookP ps) ((s : Nat) : Int))) (fun q => q) ((cS (lookP ps) ((s : Nat) : Int))) [1, 2, 6, 7, 9, 10, 15, 16, 17, 18, 19, 20, 72, 73, 74, 75, 76, 77, 78, 79, 80, 81, 82, 83, 84, 85, 86, 87, 88, 89, 90, 91, 92, 93, 94, 95, 96, 97, 98, 99, 100, 101, 102, 103, 104, 105, 106, 107, 108, 109, 110, 111, 112, 126, 127, 128] kpA (by (try dsimp only); repeat (first | with_reducible exact Gv.nil | (with_reducible apply Gv.cons; · (repeat (first | with_reducible exact Ext.here | with_reducible apply Ext.there))))) ?_ ?_ Sub.refl ?_
          ·exact Nat.le_refl _
          ·(try dsimp only); exact (Wk.cons lkA Wk.nil)
          ·rintro q hq5 K53 hK53
           simp only [List.cons_append, List.nil_append]
           refine WC_seq fun K54 hK54 => ?_
           refine WC_sr fun K55 hK55 => ?_
           refine WL_r (Rd_move rfl) rfl ?_
           refine WL_r (Rd_geq rfl rfl) rfl ?_
           refine WL_end hK55 ?_
           refine WC_cond rfl (fun hc11 => ?_) (fun hc11 => ?_)
           ·try simp only [dz, ne_eq] at hc11
            obtain ⟨k, rfl⟩ : ∃ k, q = k + 1 := ⟨q - 1, by omega⟩
            refine WC_skip ?_
            refine Ps_next hK54 ?_
            refine WC_seq fun K56 hK56 => ?_
            refine WC_block ?_
            refine WC_region ?_
            refine WL_r (Rd_move rfl) rfl ?_
            refine WL_r (Rd_valE (v := .int .i64 ((k : Nat) : Int)) (Rd_move rfl) (by congr 1; omega)) rfl ?_
            refine WL_r (Rd_move rfl) rfl ?_
            refine WL_r (Rd_valE (v := .int .i64 ((k : Nat) : Int)) (Rd_move rfl) (by congr 1; omega)) rfl ?_
            refine WL_r (Rd_index k rfl rfl ud34 sz35 (hj := by omega)) rfl ?_
            refine WL_r (Rd_load_arr (i := k) (j := 0) rfl tk35 (hl := mixL_lo (by omega) (by omega))) rfl ?_
            refine WL_r (Rd_move rfl) rfl ?_
            refine WL_r (Rd_fop rfl rfl (fmul_y (hpU.at k) hUx).1) rfl ?_
            refine WL_r (Rd_index k rfl rfl ud34 sz35 (hj := by omega)) rfl ?_
            refine WL_ac0 (Ac_store_arr (fmul ((lasT (lookP ps) (begP (lookP ps).length) (fl.take s)).getD k 0) (fsub ONE x)) rfl rfl sz35 (i := k) (j := 0) (hl := mixL_lo (by omega) (by omega))) rfl rfl ?_
            rintro _ _ rfl
            refine WL_nil ?_
            refine Ps_next hK56 ?_
            refine WC_region ?_
            rw [mixL_set htl (by omega) (by rw [takenM_at (by omega)]; unfold takeAt; rw [if_neg (by omega)])]
            refine WL_r (Rd_move rfl) rfl ?_
            refine WL_r (Rd_sub' (r := ((k : Nat) : Int) - 1) rfl rfl (wr64 (by omega) (by omega) (by omega))) rfl ?_
            refine WL_r (Rd_assign rfl) rfl ?_
            refine WL_nil ?_
            refine Ps_wkB (hK53 (k) (by omega) (by omega))
           ·try simp only [dz, ne_eq] at hc11
            obtain rfl : q = 0 := by omega
            rw [mixL_0, lasT_yes hx (by omega)]
            refine WC_exit ?_
            refine Ps_next hK40 ?_
            refine WC_region ?_
            refine WL_r (Rd_move rfl) rfl ?_
            refine WL_r (Rd_addN (j := 1) rfl rfl) rfl ?_
            refine WL_r (Rd_assign rfl) rfl ?_
            refine WL_nil ?_
            refine Ps_wkB (hK37 (s + 1) (by omega) (by omega))
      ·try simp only [dz, ne_eq] at hc8
       obtain rfl : s = 32 := by omega
       rw [lasT_32 hpk]
       refine WC_exit ?_
       refine Ps_next hK35 ?_
       refine WC_sr fun K57 hK57 => ?_
       refine WL_r (Rd_move rfl) rfl ?_
       refine WL_r (Rd_move rfl) rfl ?_
       refine WL_ac (Ac_call cf44 rfl (hs := sum_ct (ga := b69) (cap := ((lookP ps).length + 1)) (n := ((lookP ps).length + 1)) (k0 := k0) (p := (lasT (lookP ps) (begP (lookP ps).length) fl)) (by rw [lasT_len, begP_len]) (lasT_un _ (begP_un _) hU) (by omega) (by omega))) rfl rfl rfl ?_
       rintro _ _ ⟨⟨⟩, rfl, hA⟩
       simp only [List.cons_append, List.nil_append] at hA
       replace hA := hA.symm
       subst hA
       refine WL_r (Rd_assign rfl) rfl ?_
       refine WL_r (Rd_assign rfl) rfl ?_
       refine WL_end hK57 ?_
       refine WC_ret ?_
       exact hret.gf () (Rs2 rfl rfl rfl)
end Go.Proofs.Ytilmiikfjcdllaa
/-
  Floats handed in with marks behind them, and floats held against themselves. (Conditions: none; generic over the program.)
-/
set_option maxRecDepth 20000
namespace Go.HyM
open Ieee Go.SL Go.RowKit Go.Fl
def cvF (n : Int) : Nat := FloatKind.f64.nearest n
section
variable {P : Program} {n : Nat} {L : List (Nat × Value)} {A : List Asn} {d : Option Tmp} {ty : TypeId} {pos' : String} {af : Array Edge} {g : Option (Nat × Bool)}
theorem Rd_cvF {s t : TypeId} {x : Operand} {k : IntKind} {i : Int} (hx : ev L x = some (.int k i)) (hs : P.underlying s = some (.int .i64)) (ht : P.underlying t = some (.float .f64)) : Rd P n ⟨d, .convert s t x, ty, pos', af, g⟩ L A (.float .f64 (cvF i)) := fun a w hf _ => by
  simp only [execOp, hf.eval hx, convert, Sem.run_bind, run_und hs, run_und ht, Result.andThen_ok, Conv.intToFloat, Sem.run_pure]; rfl
end
theorem cvF_nn {n : Int} (h : 0 ≤ n) : NN (cvF n) := by
  unfold cvF
  show NN (double.nearest (decide (n < 0)) n.natAbs 0)
  rw [decide_eq_false (by omega)]
  exact near_NN _ _
theorem read_inf (s : Bool) : double.read (double.word s double.infRung) = .infinity s := by cases s <;> decide
theorem signed_0 {s : Bool} {m u : Nat} (h : signed s m u = 0) : m = 0 := by
  unfold signed at h
  rw [Nat.shiftLeft_eq] at h
  have : m * 2 ^ u = 0 := by
    generalize m * 2 ^ u = z at h
    split at h <;> omega
  rcases Nat.mul_eq_zero.1 this with h | h
  · exact h
  · exact absurd h (Nat.ne_of_gt (Nat.pow_pos (by decide)))
theorem read_0 : double.read 0 = .number false 0 (-1074) := by decide
theorem read_1 : double.read ONE = .number false (2 ^ 52) (-52) := by decide
theorem same_div {x : Nat} (h : double.order x 0 = some .eq) : ∃ y, floatBits .quo .f64 ONE x = some y ∧ double.order y y = some .eq := by
  show ∃ y, double.div ONE x = some y ∧ double.order y y = some .eq
  unfold Format.order at h
  unfold Format.div
  rw [read_0] at h
  rw [read_1]
  cases e : double.read x with
  | nan s f => rw [e] at h; simp [Datum.order] at h
  | infinity s => rw [e] at h; cases s <;> simp [Datum.order] at h
  | number s m i =>
    rw [e] at h
    have hm : m = 0 := by
      simp only [Datum.order, Option.some.injEq] at h
      have h : signed s m (i - min i (-1074)).toNat = signed false 0 (-1074 - min i (-1074)).toNat := by
        generalize signed s m _ = p at h
        generalize signed false 0 _ = q at h
        simp only [compare, compareOfLessAndEq] at h
        split at h
        · cases h
        · split at h
          · assumption
          · cases h
      have z : signed false 0 (-1074 - min i (-1074)).toNat = 0 := by unfold signed; simp
      rw [z] at h
      exact signed_0 h
    subst hm
    unfold Datum.quotient
    dsimp only
    rw [if_pos rfl, if_neg (by decide)]
    refine ⟨double.word (false ^^ s) double.infRung, rfl, ?_⟩
    unfold Format.order
    rw [read_inf]
    cases s <;> decide
def mkF (j : Nat) : List Nat := (List.range j).map fun i : Nat => cvF (1000 + (i : Int))
def lentF (l : List Nat) : List Nat := l ++ mkF 70
theorem mkF_len (j : Nat) : (mkF j).length = j := by unfold mkF; simp
theorem mkF_succ (j : Nat) : mkF j ++ [cvF (1000 + (j : Int))] = mkF (j + 1) := by unfold mkF; simp [List.range_succ]
theorem lentF_len (l : List Nat) : (lentF l).length = l.length + 70 := by unfold lentF; rw [List.length_append, mkF_len]
theorem lentF_lo {l : List Nat} {i x : Nat} (h : l[i]? = some x) : (lentF l)[i]? = some x := by
  unfold lentF
  rw [List.getElem?_append_left (List.getElem?_eq_some_iff.1 h).1]; exact h
theorem lentF_hi {l : List Nat} {i : Nat} (h : l.length ≤ i) (k : i < l.length + 70) : (lentF l)[i]? = some (cvF (1000 + (i : Int) - (l.length : Int))) := by
  unfold lentF mkF
  rw [List.getElem?_append_right h, List.getElem?_map, List.getElem?_range (by omega)]
  simp only [Option.map_some]
  congr 2
  omega
end Go.HyM
namespace Go.Proofs.Ytilmiikfjcdllaa
open Go.RowKit Go.SL Go.ShM Go.HyM Go.Fl Go.SvM
set_option maxHeartbeats 1000000
set_option maxRecDepth 20000
set_option linter.all false

theorem sameG_ct {x : Nat}  : Ct Try.prog 13 [.float .f64 x, .float .f64 x] [] (fun _ : Unit => .bool (Ieee.double.order x x == some .eq)) (fun _ => []) := by
 refine Ct_body (n := 19) Try.func13 rfl rfl rfl fun F w0 Q hret hnorm hp => ?_
 change WC _ _ _ _ _ _ _ (F)
 refine WC_sr fun K1 hK1 => ?_
 refine WL_r (Rd_assign rfl) rfl ?_
 refine WL_end hK1 ?_
 refine WC_sr fun K2 hK2 => ?_
 refine WL_r (Rd_move rfl) rfl ?_
 refine WL_r (Rd_move rfl) rfl ?_
 refine WL_r (Rd_feql (a := x) (b := x) rfl rfl) rfl ?_
 refine WL_r (Rd_move rfl) rfl ?_
 refine WL_bool 8 rfl (fun hg3 => ?_) (fun hg3 => ?_)
 ·try simp only [dz, ne_eq] at hg3
  refine WL_r (Rd_move rfl) rfl ?_
  refine WL_r (Rd_fneq (b := 0) rfl rfl) rfl ?_
  refine WL_r (Rd_move rfl) rfl ?_
  refine WL_bool 11 rfl (fun hg4 => ?_) (fun hg4 => ?_)
  ·try simp only [dz, ne_eq] at hg4
   refine WL_skip rfl rfl rfl ?_
   refine WL_skip rfl rfl rfl ?_
   refine WL_skip rfl rfl rfl ?_
   refine WL_skip rfl rfl rfl ?_
   refine WL_skip rfl rfl rfl ?_
   refine WL_r (Rd_pickT rfl rfl) rfl ?_
   refine WL_r (Rd_pickT rfl rfl) rfl ?_
   refine WL_r (Rd_assign rfl) rfl ?_
   refine WL_end hK2 ?_
   refine WC_ret ?_
   exact hret.gfE () (Rs1 rfl rfl) (by first | rfl | simp_all)
  ·try simp only [dz, ne_eq] at hg4
   obtain ⟨y, hy, hyy⟩ := same_div (x := x) (by simpa using hg4)
   refine WL_r (Rd_move rfl) rfl ?_
   refine WL_r (Rd_fop (a := ONE) rfl rfl hy) rfl ?_
   refine WL_r (Rd_move rfl) rfl ?_
   refine WL_r (Rd_fop (a := ONE) rfl rfl hy) rfl ?_
   refine WL_r (Rd_valE (v := .bool true) (Rd_feql (a := y) (b := y) rfl rfl) (congrArg Value.bool (by rw [hyy]; rfl))) rfl ?_
   refine WL_r (Rd_pickF rfl rfl) rfl ?_
   refine WL_r (Rd_pickT rfl rfl) rfl ?_
   refine WL_r (Rd_assign rfl) rfl ?_
   refine WL_end hK2 ?_
   refine WC_ret ?_
   exact hret.gfE () (Rs1 rfl rfl) (by first | rfl | simp_all)
 ·try simp only [dz, ne_eq] at hg3
  refine WL_skip rfl rfl rfl ?_
  refine WL_skip rfl rfl rfl ?_
  refine WL_skip rfl rfl rfl ?_
  refine WL_skip rfl rfl rfl ?_
  refine WL_skip rfl rfl rfl ?_
  refine WL_skip rfl rfl rfl ?_
  refine WL_skip rfl rfl rfl ?_
  refine WL_skip rfl rfl rfl ?_
  refine WL_skip rfl rfl rfl ?_
  refine WL_r (Rd_pickF rfl rfl) rfl ?_
  refine WL_r (Rd_assign rfl) rfl ?_
  refine WL_end hK2 ?_
  refine WC_ret ?_
  exact hret.gfE () (Rs1 rfl rfl) (by first | rfl | simp_all)

theorem lentF_ct {X : Asn} {v : Value} {l : List Nat} {ao : Option Addr} {cap : Nat} (hS : Sv [X] v 1 eF l ao cap) (hn : l.length ≤ 900000000) : Ct Try.prog 17 [v] [X] (fun g : Option Nat × Nat => sl g.1 (lentF l).length g.2) (fun g => [X, arr g.1 g.2 1 35 eF (lentF l)]) := by
 refine Ct_body (n := 19) Try.func17 rfl rfl rfl fun F w0 Q hret hnorm hp => ?_
 change WC _ _ _ _ _ _ _ (_ :: F)
 refine WC_sr fun K1 hK1 => ?_
 refine WL_r (Rd_assign (v := sl none 0 0) rfl) rfl ?_
 refine WL_end hK1 ?_
 refine WC_sr fun K2 hK2 => ?_
 refine WL_r (Rd_assign (v := sl none 0 0) rfl) rfl ?_
 refine WL_nilarr eF 1 35 ?_
 refine WL_end hK2 ?_
 refine WC_sr fun K3 hK3 => ?_
 refine WL_r (Rd_move rfl) rfl ?_
 refine WL_r (Rd_move rfl) rfl ?_
 refine WL_ac (Ac_appendS (f := eF) encF rfl rfl ud34 ud34 el35 (a := none) (cap := 0) (l := []) (l2 := l) (hS := hS) (hb := by rw [List.length_nil]; omega)) rfl rfl rfl ?_
 rintro _ _ ⟨a7, cap7, rfl, rfl⟩
 rw [List.nil_append, show ([] : List Nat).length + l.length = l.length from by simp]
 refine WL_r (Rd_assign rfl) rfl ?_
 refine WL_end hK3 ?_
 refine WC_seq fun K4 hK4 => ?_
 refine WC_sr fun K5 hK5 => ?_
 refine WL_r (Rd_assign rfl) rfl ?_
 refine WL_end hK5 ?_
 refine WC_block ?_
 rw [show arr a7 cap7 1 35 eF l = arr a7 cap7 1 35 eF (l ++ mkF 0) from by simp [mkF]]
 refine WC_loopK (σ := Nat × (Option Nat) × Nat) (fun ⟨j, a2, c2⟩ => [(3, sl a2 (l.length + j) c2), (4, .int .i64 ((j : Nat) : Int))]) (fun ⟨j, a2, c2⟩ => [arr a2 c2 1 35 eF (l ++ mkF j)]) (fun ⟨j, a2, c2⟩ => j ≤ 70) (fun ⟨j, a2, c2⟩ => 70 - j) ⟨0, a7, cap7⟩ [2, 18] kpA (by (try dsimp only); repeat (first | with_reducible exact Gv.nil | (with_reducible apply Gv.cons; · (repeat (first | with_reducible exact Ext.here | with_reducible apply Ext.there))))) ?_ ?_ Sub.refl ?_
 ·exact Nat.zero_le _
 ·(try dsimp only); exact (Wk.cons lkA (Wk.cons lkA Wk.nil))
 ·rintro ⟨j, a2, c2⟩ hj K6 hK6
  simp only [List.cons_append, List.nil_append]
  have hmj : (l ++ mkF j).length = l.length + j := by rw [List.length_append, mkF_len]
  refine WC_seq fun K7 hK7 => ?_
  refine WC_sr fun K8 hK8 => ?_
  refine WL_r (Rd_move rfl) rfl ?_
  refine WL_r (Rd_lssN (j := 70) rfl rfl) rfl ?_
  refine WL_end hK8 ?_
  refine WC_cond rfl (fun hc0 => ?_) (fun hc0 => ?_)
  ·try simp only [dz, ne_eq] at hc0
   refine WC_skip ?_
   refine Ps_next hK7 ?_
   refine WC_seq fun K9 hK9 => ?_
   refine WC_block ?_
   refine WC_region ?_
   refine WL_r (Rd_move rfl) rfl ?_
   refine WL_r (Rd_move rfl) rfl ?_
   refine WL_r (Rd_addN (i := 1000) rfl rfl) rfl ?_
   refine WL_r (Rd_valE (v := .float .f64 (cvF (1000 + (j : Int)))) (Rd_cvF rfl ud3 Try.underlying35) (by congr 2)) rfl ?_
   refine WL_ac (Ac_bs1 (xs := eF (cvF (1000 + (j : Int)))) rfl ud34 zr35 sz35 (hl := encF.len _)) rfl rfl rfl ?_
   rintro _ _ ⟨b16, rfl, rfl⟩
   refine WL_ac (Ac_append1 (f := eF) encF (cvF (1000 + (j : Int))) rfl rfl ud34 ud34 el35) rfl rfl rfl ?_
   rintro _ _ ⟨a17, cap17, rfl, rfl⟩
   rw [hmj, List.append_assoc, mkF_succ]
   refine WL_r (Rd_assign rfl) rfl ?_
   refine WL_nil ?_
   refine Ps_next hK9 ?_
   refine WC_region ?_
   refine WL_r (Rd_move rfl) rfl ?_
   refine WL_r (Rd_addN (j := 1) rfl rfl) rfl ?_
   refine WL_r (Rd_assign rfl) rfl ?_
   refine WL_nil ?_
   refine Ps_wkB (hK6 ⟨j + 1, a17, cap17⟩ (by (try dsimp only); omega) (by (try dsimp only); omega))
  ·try simp only [dz, ne_eq] at hc0
   obtain rfl : j = 70 := by omega
   rw [show l ++ mkF 70 = lentF l from rfl]
   have hll := lentF_len l
   refine WC_exit ?_
   refine Ps_next hK4 ?_
   refine WC_sr fun K10 hK10 => ?_
   refine WL_r (Rd_move rfl) rfl ?_
   refine WL_r (Rd_assign rfl) rfl ?_
   refine WL_end hK10 ?_
   refine WC_ret ?_
   exact hret.gfE (a2, c2) (Rs1 rfl rfl) (by dsimp only; rw [hll])

theorem keptF_ct {X : Asn} {v v' : Value} {l : List Nat} {ao ao' : Option Addr} {cap cap' : Nat} (hS : Sv [X] v 1 eF (lentF l) ao cap) (hS' : Sv [X] v' 1 eF l ao' cap') (hn : l.length ≤ 900000000) : Ct Try.prog 24 [v, v'] [X] (fun _ : Unit => .bool true) (fun _ => [X]) := by
 refine Ct_body (n := 75) Try.func24 rfl rfl rfl fun F w0 Q hret hnorm hp => ?_
 change WC _ _ _ _ _ _ _ (_ :: F)
 have hll := lentF_len l
 refine WC_sr fun K1 hK1 => ?_
 refine WL_r (Rd_assign rfl) rfl ?_
 refine WL_end hK1 ?_
 refine WC_seq fun K2 hK2 => ?_
 refine WC_sr fun K3 hK3 => ?_
 refine WL_r (Rd_move rfl) rfl ?_
 refine WL_r (Rd_len_sv rfl rfl ud34 (hA := hS)) rfl ?_
 refine WL_r (Rd_move rfl) rfl ?_
 refine WL_r (Rd_len_sv rfl rfl ud34 (hA := hS')) rfl ?_
 refine WL_r (Rd_addN (j := 70) rfl rfl) rfl ?_
 refine WL_r (Rd_valE (v := .bool false) (Rd_neqN rfl rfl) (congrArg Value.bool (decide_eq_false (fun k => k hll)))) rfl ?_
 refine WL_end hK3 ?_
 refine WC_condF rfl ?_
 refine WC_skip ?_
 refine Ps_next hK2 ?_
 refine WC_seq fun K4 hK4 => ?_
 refine WC_sr fun K5 hK5 => ?_
 refine WL_r (Rd_assign rfl) rfl ?_
 refine WL_end hK5 ?_
 refine WC_block ?_
 refine WC_loopK (σ := Nat) (fun i => [(5, .int .i64 ((i : Nat) : Int))]) (fun i => []) (fun i => i ≤ (lentF l).length) (fun i => (lentF l).length - i) (0) [0, 1] kpA (by (try dsimp only); repeat (first | with_reducible exact Gv.nil | (with_reducible apply Gv.cons; · (repeat (first | with_reducible exact Ext.here | with_reducible apply Ext.there))))) ?_ ?_ Sub.refl ?_
 ·exact Nat.zero_le _
 ·(try dsimp only); exact (Wk.cons lkA Wk.nil)
 ·rintro i hi K6 hK6
  simp only [List.cons_append, List.nil_append]
  refine WC_seq fun K7 hK7 => ?_
  refine WC_sr fun K8 hK8 => ?_
  refine WL_r (Rd_move rfl) rfl ?_
  refine WL_r (Rd_move rfl) rfl ?_
  refine WL_r (Rd_len_sv rfl rfl ud34 (hA := hS)) rfl ?_
  refine WL_r (Rd_lssN rfl rfl) rfl ?_
  refine WL_end hK8 ?_
  refine WC_cond rfl (fun hc1 => ?_) (fun hc1 => ?_)
  ·try simp only [dz, ne_eq] at hc1
   refine WC_skip ?_
   refine Ps_next hK7 ?_
   refine WC_seq fun K9 hK9 => ?_
   refine WC_block ?_
   refine WC_seq fun K10 hK10 => ?_
   refine WC_draw mix [X] (fun i => ([2, 2, 2, 2, 2, 2, 2, 2, 2, 2, 2, 2, 2, 1, 2, 2, 2, 2, 2, 2, 2, 2, 2, 2, 2, 2, 2, 2, 2, 2, 2, 2, 2, 2, 2, 2, 2, 2, 2, 2, 2, 2, 2, 2, 2, 2, 2, 2, 2, 2, 2, 2, 2, 2, 2, 2, 2] : List Nat).getD i 0) ?_
   refine WJ_tp 0 rfl (Rd_move rfl) rfl (hp _ _) ?_
   refine WJ_tp 1 rfl (Rd_move rfl) rfl (hp _ _) ?_
   refine WJ_tp 2 rfl (Rd_len_sv rfl rfl ud34 (hA := hS')) rfl (hp _ _) ?_
   refine WJ_tp 3 rfl (Rd_lssN rfl rfl) rfl (hp _ _) ?_
   refine WJ_tp 4 rfl (Rd_move rfl) rfl (hp _ _) ?_
   refine WJ_bool 22 rfl (fun hg11 => ?_) (fun hg11 => ?_)
   ·try simp only [dz, ne_eq] at hg11
    obtain ⟨x, hx⟩ : ∃ x, l[i]? = some x := ⟨_, List.getElem?_eq_getElem (by omega)⟩
    refine WJ_tp 5 rfl (Rd_move rfl) rfl (hp _ _) ?_
    refine WJ_tp 6 rfl (Rd_move rfl) rfl (hp _ _) ?_
    refine WJ_tp 7 rfl (Rd_index_sv i rfl rfl ud34 sz35 (hA := hS) (hi := by omega)) rfl (hp _ _) ?_
    refine WJ_tk 8 (Rd_load_sv (i := i) (j := 0) (y := x) rfl tk35 (hA := hS) (hl := lentF_lo hx) (hv := rfl)) hp ?_ rfl (by kernel_rfl) rfl rfl rfl
    refine WJ_tp 9 rfl (Rd_move rfl) rfl (hp _ _) ?_
    refine WJ_tp 10 rfl (Rd_move rfl) rfl (hp _ _) ?_
    refine WJ_tp 11 rfl (Rd_index_sv i rfl rfl ud34 sz35 (hA := hS') (hi := by omega)) rfl (hp _ _) ?_
    refine WJ_tk 12 (Rd_load_sv (i := i) (j := 0) (y := x) rfl tk35 (hA := hS') (hl := hx) (hv := rfl)) hp ?_ rfl (by kernel_rfl) rfl rfl rfl
    refine WJ_all (rs := [13]) (by kernel_rfl) rfl ?_
    refine WI_one ?_
    refine WI_ac rfl (Ac_call cf13 rfl (hs := sameG_ct (x := x))) rfl rfl rfl rfl ?_
    rintro _ _ ⟨⟨⟩, rfl, hA⟩
    simp only [List.cons_append, List.nil_append] at hA
    replace hA := hA.symm
    subst hA
    refine ⟨(fun _ => subF), ?_⟩
    refine WJ_tp 14 rfl (Rd_not rfl) rfl (hp _ _) ?_
    refine WJ_tp 15 rfl (Rd_pickT rfl rfl) rfl (hp _ _) ?_
    refine WJ_tp 16 rfl (Rd_move rfl) rfl (hp _ _) ?_
    refine WJ_bool 34 rfl (fun hg12 => ?_) (fun hg12 => ?_)
    ·try simp only [dz, ne_eq] at hg12
     refine WJ_tp 17 rfl (Rd_move rfl) rfl (hp _ _) ?_
     refine WJ_tp 18 rfl (Rd_move rfl) rfl (hp _ _) ?_
     refine WJ_tp 19 rfl (Rd_index_sv i rfl rfl ud34 sz35 (hA := hS') (hi := by omega)) rfl (hp _ _) ?_
     refine WJ_tk 20 (Rd_load_sv (i := i) (j := 0) (y := x) rfl tk35 (hA := hS') (hl := hx) (hv := rfl)) hp ?_ rfl (by kernel_rfl) rfl rfl rfl
     refine WJ_tp 21 rfl (Rd_move rfl) rfl (hp _ _) ?_
     refine WJ_tp 22 rfl (Rd_move rfl) rfl (hp _ _) ?_
     refine WJ_tp 23 rfl (Rd_index_sv i rfl rfl ud34 sz35 (hA := hS') (hi := by omega)) rfl (hp _ _) ?_
     refine WJ_tk 24 (Rd_load_sv (i := i) (j := 0) (y := x) rfl tk35 (hA := hS') (hl := hx) (hv := rfl)) hp ?_ rfl (by kernel_rfl) rfl rfl rfl
     refine WJ_tp 25 rfl (Rd_valE (v := .bool false) (Rd_feql (a := x) (b := x) rfl rfl) (congrArg Value.bool (by first | assumption | simp_all))) rfl (hp _ _) ?_
     refine WJ_tp 26 rfl (Rd_move rfl) rfl (hp _ _) ?_
     refine WJ_tp 27 rfl (Rd_move rfl) rfl (hp _ _) ?_
     refine WJ_tp 28 rfl (Rd_move rfl) rfl (hp _ _) ?_
     refine WJ_tp 29 rfl (Rd_index_sv i rfl rfl ud34 sz35 (hA := hS) (hi := by omega)) rfl (hp _ _) ?_
     refine WJ_tk 30 (Rd_load_sv (i := i) (j := 0) (y := x) rfl tk35 (hA := hS) (hl := lentF_lo hx) (hv := rfl)) hp ?_ rfl (by kernel_rfl) rfl rfl rfl
     refine WJ_tp 31 rfl (Rd_move rfl) rfl (hp _ _) ?_
     refine WJ_tp 32 rfl (Rd_move rfl) rfl (hp _ _) ?_
     refine WJ_tp 33 rfl (Rd_index_sv i rfl rfl ud34 sz35 (hA := hS) (hi := by omega)) rfl (hp _ _) ?_
     refine WJ_tk 34 (Rd_load_sv (i := i) (j := 0) (y := x) rfl tk35 (hA := hS) (hl := lentF_lo hx) (hv := rfl)) hp ?_ rfl (by kernel_rfl) rfl rfl rfl
     refine WJ_tp 35 rfl (Rd_valE (v := .bool false) (Rd_feql (a := x) (b := x) rfl rfl) (congrArg Value.bool (by first | assumption | simp_all))) rfl (hp _ _) ?_
     refine WJ_tp 36 rfl (Rd_pickF rfl rfl) rfl (hp _ _) ?_
     refine WJ_tp 37 rfl (Rd_pickT rfl rfl) rfl (hp _ _) ?_
     refine WJ_tp 38 rfl (Rd_move rfl) rfl (hp _ _) ?_
     refine WJ_tp 39 rfl (Rd_move rfl) rfl (hp _ _) ?_
     refine WJ_tp 40 rfl (Rd_move rfl) rfl (hp _ _) ?_
     refine WJ_tp 41 rfl (Rd_len_sv rfl rfl ud34 (hA := hS')) rfl (hp _ _) ?_
     refine WJ_tp 42 rfl (Rd_geqN rfl rfl) rfl (hp _ _) ?_
     refine WJ_tp 43 rfl (Rd_move rfl) rfl (hp _ _) ?_
     refine WJ_bool 61 rfl (fun hg13 => ?_) (fun hg13 => ?_)
     ·try simp only [dz, ne_eq] at hg13
      exfalso
      omega
     ·try simp only [dz, ne_eq] at hg13
      refine WJ_skip 44 rfl (by kernel_rfl) rfl rfl rfl (hp _ _) ?_
      refine WJ_skip 45 rfl (by kernel_rfl) rfl rfl rfl (hp _ _) ?_
      refine WJ_skip 46 rfl (by kernel_rfl) rfl rfl rfl (hp _ _) ?_
      refine WJ_skip 47 rfl (by kernel_rfl) rfl rfl rfl (hp _ _) ?_
      refine WJ_skip 48 rfl (by kernel_rfl) rfl rfl rfl (hp _ _) ?_
      refine WJ_skip 49 rfl (by kernel_rfl) rfl rfl rfl (hp _ _) ?_
      refine WJ_skip 50 rfl (by kernel_rfl) rfl rfl rfl (hp _ _) ?_
      refine WJ_skip 51 rfl (by kernel_rfl) rfl rfl rfl (hp _ _) ?_
      refine WJ_skip 52 rfl (by kernel_rfl) rfl rfl rfl (hp _ _) ?_
      refine WJ_skip 53 rfl (by kernel_rfl) rfl rfl rfl (hp _ _) ?_
      refine WJ_skip 54 rfl (by kernel_rfl) rfl rfl rfl (hp _ _) ?_
      refine WJ_tp 55 rfl (Rd_pickF rfl rfl) rfl (hp _ _) ?_
      refine WJ_tp 56 rfl (Rd_pickF rfl rfl) rfl (hp _ _) ?_
      refine WJ_done (by kernel_rfl) ?_
      refine Ps_next hK10 ?_
      refine WC_condF rfl ?_
      refine WC_skip ?_
      refine Ps_next hK9 ?_
      refine WC_region ?_
      refine WL_r (Rd_move rfl) rfl ?_
      refine WL_r (Rd_addN (j := 1) rfl rfl) rfl ?_
      refine WL_r (Rd_assign rfl) rfl ?_
      refine WL_nil ?_
      refine Ps_wkB (hK6 (i + 1) (by omega) (by omega))
    ·try simp only [dz, ne_eq] at hg12
     refine WJ_skip 17 rfl (by kernel_rfl) rfl rfl rfl (hp _ _) ?_
     refine WJ_skip 18 rfl (by kernel_rfl) rfl rfl rfl (hp _ _) ?_
     refine WJ_skip 19 rfl (by kernel_rfl) rfl rfl rfl (hp _ _) ?_
     refine WJ_skip 20 rfl (by kernel_rfl) rfl rfl rfl (hp _ _) ?_
     refine WJ_skip 21 rfl (by kernel_rfl) rfl rfl rfl (hp _ _) ?_
     refine WJ_skip 22 rfl (by kernel_rfl) rfl rfl rfl (hp _ _) ?_
     refine WJ_skip 23 rfl (by kernel_rfl) rfl rfl rfl (hp _ _) ?_
     refine WJ_skip 24 rfl (by kernel_rfl) rfl rfl rfl (hp _ _) ?_
     refine WJ_skip 25 rfl (by kernel_rfl) rfl rfl rfl (hp _ _) ?_
     refine WJ_skip 26 rfl (by kernel_rfl) rfl rfl rfl (hp _ _) ?_
     refine WJ_skip 27 rfl (by kernel_rfl) rfl rfl rfl (hp _ _) ?_
     refine WJ_skip 28 rfl (by kernel_rfl) rfl rfl rfl (hp _ _) ?_
     refine WJ_skip 29 rfl (by kernel_rfl) rfl rfl rfl (hp _ _) ?_
     refine WJ_skip 30 rfl (by kernel_rfl) rfl rfl rfl (hp _ _) ?_
     refine WJ_skip 31 rfl (by kernel_rfl) rfl rfl rfl (hp _ _) ?_
     refine WJ_skip 32 rfl (by kernel_rfl) rfl rfl rfl (hp _ _) ?_
     refine WJ_skip 33 rfl (by kernel_rfl) rfl rfl rfl (hp _ _) ?_
     refine WJ_skip 34 rfl (by kernel_rfl) rfl rfl rfl (hp _ _) ?_
     refine WJ_skip 35 rfl (by kernel_rfl) rfl rfl rfl (hp _ _) ?_
     refine WJ_skip 36 rfl (by kernel_rfl) rfl rfl rfl (hp _ _) ?_
     refine WJ_tp 37 rfl (Rd_pickF rfl rfl) rfl (hp _ _) ?_
     refine WJ_tp 38 rfl (Rd_move rfl) rfl (hp _ _) ?_
     refine WJ_tp 39 rfl (Rd_move rfl) rfl (hp _ _) ?_
     refine WJ_tp 40 rfl (Rd_move rfl) rfl (hp _ _) ?_
     refine WJ_tp 41 rfl (Rd_len_sv rfl rfl ud34 (hA := hS')) rfl (hp _ _) ?_
     refine WJ_tp 42 rfl (Rd_geqN rfl rfl) rfl (hp _ _) ?_
     refine WJ_tp 43 rfl (Rd_move rfl) rfl (hp _ _) ?_
     refine WJ_bool 61 rfl (fun hg14 => ?_) (fun hg14 => ?_)
     ·try simp only [dz, ne_eq] at hg14
      exfalso
      omega
     ·try simp only [dz, ne_eq] at hg14
      refine WJ_skip 44 rfl (by kernel_rfl) rfl rfl rfl (hp _ _) ?_
      refine WJ_skip 45 rfl (by kernel_rfl) rfl rfl rfl (hp _ _) ?_
      refine WJ_skip 46 rfl (by kernel_rfl) rfl rfl rfl (hp _ _) ?_
      refine WJ_skip 47 rfl (by kernel_rfl) rfl rfl rfl (hp _ _) ?_
      refine WJ_skip 48 rfl (by kernel_rfl) rfl rfl rfl (hp _ _) ?_
      refine WJ_skip 49 rfl (by kernel_rfl) rfl rfl rfl (hp _ _) ?_
      refine WJ_skip 50 rfl (by kernel_rfl) rfl rfl rfl (hp _ _) ?_
      refine WJ_skip 51 rfl (by kernel_rfl) rfl rfl rfl (hp _ _) ?_
      refine WJ_skip 52 rfl (by kernel_rfl) rfl rfl rfl (hp _ _) ?_
      refine WJ_skip 53 rfl (by kernel_rfl) rfl rfl rfl (hp _ _) ?_
      refine WJ_skip 54 rfl (by kernel_rfl) rfl rfl rfl (hp _ _) ?_
      refine WJ_tp 55 rfl (Rd_pickF rfl rfl) rfl (hp _ _) ?_
      refine WJ_tp 56 rfl (Rd_pickF rfl rfl) rfl (hp _ _) ?_
      refine WJ_done (by kernel_rfl) ?_
      refine Ps_next hK10 ?_
      refine WC_condF rfl ?_
      refine WC_skip ?_
      refine Ps_next hK9 ?_
      refine WC_region ?_
      refine WL_r (Rd_move rfl) rfl ?_
      refine WL_r (Rd_addN (j := 1) rfl rfl) rfl ?_
      refine WL_r (Rd_assign rfl) rfl ?_
      refine WL_nil ?_
      refine Ps_wkB (hK6 (i + 1) (by omega) (by omega))
   ·try simp only [dz, ne_eq] at hg11
    refine WJ_skip 5 rfl (by kernel_rfl) rfl rfl rfl (hp _ _) ?_
    refine WJ_skip 6 rfl (by kernel_rfl) rfl rfl rfl (hp _ _) ?_
    refine WJ_skip 7 rfl (by kernel_rfl) rfl rfl rfl (hp _ _) ?_
    refine WJ_skip 8 rfl (by kernel_rfl) rfl rfl rfl (hp _ _) ?_
    refine WJ_skip 9 rfl (by kernel_rfl) rfl rfl rfl (hp _ _) ?_
    refine WJ_skip 10 rfl (by kernel_rfl) rfl rfl rfl (hp _ _) ?_
    refine WJ_skip 11 rfl (by kernel_rfl) rfl rfl rfl (hp _ _) ?_
    refine WJ_skip 12 rfl (by kernel_rfl) rfl rfl rfl (hp _ _) ?_
    refine WJ_all (rs := [13]) (by kernel_rfl) rfl ?_
    refine WI_one ?_
    refine WI_skip rfl rfl rfl rfl (fun _ => subF) ?_
    refine WJ_skip 14 rfl (by kernel_rfl) rfl rfl rfl (hp _ _) ?_
    refine WJ_tp 15 rfl (Rd_pickF rfl rfl) rfl (hp _ _) ?_
    refine WJ_tp 16 rfl (Rd_move rfl) rfl (hp _ _) ?_
    refine WJ_skip 17 rfl (by kernel_rfl) rfl rfl rfl (hp _ _) ?_
    refine WJ_skip 18 rfl (by kernel_rfl) rfl rfl rfl (hp _ _) ?_
    refine WJ_skip 19 rfl (by kernel_rfl) rfl rfl rfl (hp _ _) ?_
    refine WJ_skip 20 rfl (by kernel_rfl) rfl rfl rfl (hp _ _) ?_
    refine WJ_skip 21 rfl (by kernel_rfl) rfl rfl rfl (hp _ _) ?_
    refine WJ_skip 22 rfl (by kernel_rfl) rfl rfl rfl (hp _ _) ?_
    refine WJ_skip 23 rfl (by kernel_rfl) rfl rfl rfl (hp _ _) ?_
    refine WJ_skip 24 rfl (by kernel_rfl) rfl rfl rfl (hp _ _) ?_
    refine WJ_skip 25 rfl (by kernel_rfl) rfl rfl rfl (hp _ _) ?_
    refine WJ_skip 26 rfl (by kernel_rfl) rfl rfl rfl (hp _ _) ?_
    refine WJ_skip 27 rfl (by kernel_rfl) rfl rfl rfl (hp _ _) ?_
    refine WJ_skip 28 rfl (by kernel_rfl) rfl rfl rfl (hp _ _) ?_
    refine WJ_skip 29 rfl (by kernel_rfl) rfl rfl rfl (hp _ _) ?_
    refine WJ_skip 30 rfl (by kernel_rfl) rfl rfl rfl (hp _ _) ?_
    refine WJ_skip 31 rfl (by kernel_rfl) rfl rfl rfl (hp _ _) ?_
    refine WJ_skip 32 rfl (by kernel_rfl) rfl rfl rfl (hp _ _) ?_
    refine WJ_skip 33 rfl (by kernel_rfl) rfl rfl rfl (hp _ _) ?_
    refine WJ_skip 34 rfl (by kernel_rfl) rfl rfl rfl (hp _ _) ?_
    refine WJ_skip 35 rfl (by kernel_rfl) rfl rfl rfl (hp _ _) ?_
    refine WJ_skip 36 rfl (by kernel_rfl) rfl rfl rfl (hp _ _) ?_
    refine WJ_tp 37 rfl (Rd_pickF rfl rfl) rfl (hp _ _) ?_
    refine WJ_tp 38 rfl (Rd_move rfl) rfl (hp _ _) ?_
    refine WJ_tp 39 rfl (Rd_move rfl) rfl (hp _ _) ?_
    refine WJ_tp 40 rfl (Rd_move rfl) rfl (hp _ _) ?_
    refine WJ_tp 41 rfl (Rd_len_sv rfl rfl ud34 (hA := hS')) rfl (hp _ _) ?_
    refine WJ_tp 42 rfl (Rd_geqN rfl rfl) rfl (hp _ _) ?_
    refine WJ_tp 43 rfl (Rd_move rfl) rfl (hp _ _) ?_
    refine WJ_bool 61 rfl (fun hg15 => ?_) (fun hg15 => ?_)
    ·try simp only [dz, ne_eq] at hg15
     refine WJ_tp 44 rfl (Rd_move rfl) rfl (hp _ _) ?_
     refine WJ_tp 45 rfl (Rd_move rfl) rfl (hp _ _) ?_
     refine WJ_tp 46 rfl (Rd_index_sv i rfl rfl ud34 sz35 (hA := hS) (hi := by omega)) rfl (hp _ _) ?_
     refine WJ_tk 47 (Rd_load_sv (i := i) (j := 0) (y := (cvF (1000 + (i : Int) - (l.length : Int)))) rfl tk35 (hA := hS) (hl := lentF_hi (by omega) (by omega)) (hv := rfl)) hp ?_ rfl (by kernel_rfl) rfl rfl rfl
     refine WJ_tp 48 rfl (Rd_move rfl) rfl (hp _ _) ?_
     refine WJ_tp 49 rfl (Rd_addN (i := 1000) rfl rfl) rfl (hp _ _) ?_
     refine WJ_tp 50 rfl (Rd_move rfl) rfl (hp _ _) ?_
     refine WJ_tp 51 rfl (Rd_len_sv rfl rfl ud34 (hA := hS')) rfl (hp _ _) ?_
     refine WJ_tp 52 rfl (Rd_sub' (r := 1000 + (i : Int) - (l.length : Int)) rfl rfl (wr64 (by omega) (by omega) (by omega))) rfl (hp _ _) ?_
     refine WJ_tp 53 rfl (Rd_cvF rfl ud3 Try.underlying35) rfl (hp _ _) ?_
     refine WJ_tp 54 rfl (Rd_valE (v := .bool false) (Rd_fneq rfl rfl) (congrArg Value.bool (by rw [ord_refl (cvF_nn (by omega))]; rfl))) rfl (hp _ _) ?_
     refine WJ_tp 55 rfl (Rd_pickT rfl rfl) rfl (hp _ _) ?_
     refine WJ_tp 56 rfl (Rd_pickF rfl rfl) rfl (hp _ _) ?_
     refine WJ_done (by kernel_rfl) ?_
     refine Ps_next hK10 ?_
     refine WC_condF rfl ?_
     refine WC_skip ?_
     refine Ps_next hK9 ?_
     refine WC_region ?_
     refine WL_r (Rd_move rfl) rfl ?_
     refine WL_r (Rd_addN (j := 1) rfl rfl) rfl ?_
     refine WL_r (Rd_assign rfl) rfl ?_
     refine WL_nil ?_
     refine Ps_wkB (hK6 (i + 1) (by omega) (by omega))
    ·try simp only [dz, ne_eq] at hg15
     exfalso
     omega
  ·try simp only [dz, ne_eq] at hc1
   refine WC_exit ?_
   refine Ps_next hK4 ?_
   refine WC_sr fun K16 hK16 => ?_
   refine WL_r (Rd_assign rfl) rfl ?_
   refine WL_end hK16 ?_
   refine WC_ret ?_
   exact hret.gf () (Rs1 rfl rfl)
end Go.Proofs.Ytilmiikfjcdllaa
