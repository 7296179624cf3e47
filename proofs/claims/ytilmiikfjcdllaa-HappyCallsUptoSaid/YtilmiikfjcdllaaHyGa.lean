/-
  Contracts of functions that the claim reaches, or the logic and the plain laws that they rest on, or the row over them. (Conditions: none beyond the statement.)
-/
import Derived.Test.YtilmiikfjcdllaaRows
import Derived.Test.YtilmiikfjcdllaaHyLa
import Derived.Test.YtilmiikfjcdllaaLibR
import Derived.Test.YtilmiikfjcdllaaLibA
import Derived.Test.YtilmiikfjcdllaaSvLA
import Derived.Test.YtilmiikfjcdllaaLibC
import Derived.Test.YtilmiikfjcdllaaLibE
import Derived.Test.YtilmiikfjcdllaaSvLB
set_option linter.all false
namespace Go.Proofs.Ytilmiikfjcdllaa
open Go.RowKit Go.SL Go.ShM Go.HyM Go.Fl
set_option maxHeartbeats 1000000
set_option maxRecDepth 20000
set_option linter.all false
theorem cf51 : cfn Try.prog 51 = true := by kernel_rfl
theorem cf52 : cfn Try.prog 52 = true := by kernel_rfl
theorem cf59 : cfn Try.prog 59 = true := by kernel_rfl
theorem mix : Try.prog.follows .mixedOrders = true := by kernel_rfl
theorem sz35 : sz Try.prog 35 = some 1 := by kernel_rfl
theorem tk35 : tk Try.prog 35 = some none := by kernel_rfl
theorem ud34 : Try.prog.underlying 34 = some (.slice 35) := by kernel_rfl
theorem prob1_ct {x : Nat}  : Ct Try.prog 52 [.float .f64 x] [] (fun _ : Unit => .bool (!chB x)) (fun _ => []) := by
 refine Ct_body (n := 10) Try.func52 rfl rfl rfl fun F w0 Q hret hnorm hp => ?_
 change WC _ _ _ _ _ _ _ (F)
 refine WC_sr fun K1 hK1 => ?_
 refine WL_r (Rd_assign rfl) rfl ?_
 refine WL_end hK1 ?_
 refine WC_sr fun K2 hK2 => ?_
 refine WL_r (Rd_move rfl) rfl ?_
 refine WL_r (Rd_fgeq (b := 0) rfl rfl) rfl ?_
 refine WL_r (Rd_move rfl) rfl ?_
 refine WL_bool 5 rfl (fun hg3 => ?_) (fun hg3 => ?_)
 ·try simp only [dz, ne_eq] at hg3
  refine WL_r (Rd_move rfl) rfl ?_
  refine WL_r (Rd_fleq (b := ONE) rfl rfl) rfl ?_
  refine WL_r (Rd_pickT rfl rfl) rfl ?_
  refine WL_r (Rd_not rfl) rfl ?_
  refine WL_r (Rd_assign rfl) rfl ?_
  refine WL_end hK2 ?_
  refine WC_ret ?_
  exact hret.gfE () (Rs1 rfl rfl) (by unfold chB; first | (simp_all; done) | grind)
 ·try simp only [dz, ne_eq] at hg3
  refine WL_skip rfl rfl rfl ?_
  refine WL_skip rfl rfl rfl ?_
  refine WL_r (Rd_pickF rfl rfl) rfl ?_
  refine WL_r (Rd_not rfl) rfl ?_
  refine WL_r (Rd_assign rfl) rfl ?_
  refine WL_end hK2 ?_
  refine WC_ret ?_
  exact hret.gfE () (Rs1 rfl rfl) (by unfold chB; first | (simp_all; done) | grind)

theorem idxF_ct {X : Asn} {v : Value} {l : List Nat} {ao : Option Addr} {cap : Nat} (hS : Sv [X] v 1 eF l ao cap) (hn : l.length ≤ 900000000000) : Ct Try.prog 59 [v, .func (.func 52) #[] #[]] [X] (fun g : {r : Int // (0 ≤ r ∧ oddsOk l = false) ∨ (r < 0 ∧ oddsOk l = true)} => .int .i64 g.1) (fun g => [X]) := by
 refine Ct_body (n := 19) Try.func59 rfl rfl rfl fun F w0 Q hret hnorm hp => ?_
 change WC _ _ _ _ _ _ _ (_ :: F)
 refine WC_sr fun K1 hK1 => ?_
 refine WL_r (Rd_assign rfl) rfl ?_
 refine WL_end hK1 ?_
 refine WC_seq fun K2 hK2 => ?_
 refine WC_sr fun K3 hK3 => ?_
 refine WL_r (Rd_move rfl) rfl ?_
 refine WL_r (Rd_len_sv rfl rfl ud34) rfl ?_
 refine WL_r (Rd_move rfl) rfl ?_
 refine WL_end hK3 ?_
 refine WC_block ?_
 refine WC_loopK (σ := Nat) (fun i => [(8, .int .i64 ((i : Nat) : Int))]) (fun i => []) (fun i => i ≤ l.length ∧ (l.take i).all chB = true) (fun i => l.length - i) (0) [0, 1, 7] kpA (by (try dsimp only); repeat (first | with_reducible exact Gv.nil | (with_reducible apply Gv.cons; · (repeat (first | with_reducible exact Ext.here | with_reducible apply Ext.there))))) ?_ ?_ Sub.refl ?_
 ·exact ⟨Nat.zero_le _, rfl⟩
 ·(try dsimp only); exact (Wk.cons lkA Wk.nil)
 ·rintro i ⟨hi, hal⟩ K4 hK4
  simp only [List.cons_append, List.nil_append]
  refine WC_sr fun K5 hK5 => ?_
  refine WL_r (Rd_lssN rfl rfl) rfl ?_
  refine WL_end hK5 ?_
  refine WC_seq fun K6 hK6 => ?_
  refine WC_cond rfl (fun hc0 => ?_) (fun hc0 => ?_)
  ·try simp only [dz, ne_eq] at hc0
   obtain ⟨x, hx⟩ : ∃ x, l[i]? = some x := ⟨_, List.getElem?_eq_getElem (by omega)⟩
   refine WC_skip ?_
   refine Ps_next hK6 ?_
   refine WC_seq fun K7 hK7 => ?_
   refine WC_block ?_
   refine WC_sr fun K8 hK8 => ?_
   refine WL_r (Rd_move rfl) rfl ?_
   refine WL_r (Rd_assign rfl) rfl ?_
   refine WL_end hK8 ?_
   refine WC_sr fun K9 hK9 => ?_
   refine WL_r (Rd_move rfl) rfl ?_
   refine WL_r (Rd_move rfl) rfl ?_
   refine WL_r (Rd_move rfl) rfl ?_
   refine WL_r (Rd_index_sv i rfl rfl ud34 sz35 (hA := hS) (hi := by omega)) rfl ?_
   refine WL_r (Rd_load_sv (i := i) (j := 0) (y := x) rfl tk35 (hA := hS) (hl := hx) (hv := rfl)) rfl ?_
   refine WL_ac (Ac_callv rfl cf52 rfl rfl rfl rfl (hs := prob1_ct (x := x))) rfl rfl rfl ?_
   rintro _ _ ⟨⟨⟩, rfl, hA⟩
   simp only [List.cons_append, List.nil_append] at hA
   replace hA := hA.symm
   subst hA
   refine WL_end hK9 ?_
   refine WC_cond rfl (fun hc1 => ?_) (fun hc1 => ?_)
   ·try simp only [dz, ne_eq] at hc1
    refine WC_sr fun K10 hK10 => ?_
    refine WL_r (Rd_move rfl) rfl ?_
    refine WL_r (Rd_assign rfl) rfl ?_
    refine WL_end hK10 ?_
    refine WC_ret ?_
    exact hret.gf ⟨(i : Int), .inl ⟨by omega, all_no hx (by simpa using hc1)⟩⟩ (Rs1 rfl rfl)
   ·try simp only [dz, ne_eq] at hc1
    refine WC_skip ?_
    refine Ps_next hK7 ?_
    refine WC_region ?_
    refine WL_r (Rd_addN (j := 1) rfl rfl) rfl ?_
    refine WL_r (Rd_move rfl) rfl ?_
    refine WL_nil ?_
    refine Ps_wkB (hK4 (i + 1) (⟨by omega, all_snoc hx hal (by simpa using hc1)⟩) (by omega))
  ·try simp only [dz, ne_eq] at hc0
   obtain rfl : i = l.length := by omega
   rw [List.take_length] at hal
   refine WC_exit ?_
   refine Ps_next hK2 ?_
   refine WC_sr fun K11 hK11 => ?_
   refine WL_r (Rd_assign rfl) rfl ?_
   refine WL_end hK11 ?_
   refine WC_ret ?_
   exact hret.gf ⟨-1, .inr ⟨by omega, hal⟩⟩ (Rs1 rfl rfl)

theorem conF_ct {X : Asn} {v : Value} {l : List Nat} {ao : Option Addr} {cap : Nat} (hS : Sv [X] v 1 eF l ao cap) (hn : l.length ≤ 900000000000) : Ct Try.prog 51 [v, .func (.func 52) #[] #[]] [X] (fun _ : Unit => .bool (!oddsOk l)) (fun _ => [X]) := by
 refine Ct_body (n := 9) Try.func51 rfl rfl rfl fun F w0 Q hret hnorm hp => ?_
 change WC _ _ _ _ _ _ _ (_ :: F)
 refine WC_sr fun K1 hK1 => ?_
 refine WL_r (Rd_assign rfl) rfl ?_
 refine WL_end hK1 ?_
 refine WC_sr fun K2 hK2 => ?_
 refine WL_r (Rd_move rfl) rfl ?_
 refine WL_r (Rd_move rfl) rfl ?_
 refine WL_ac (Ac_call cf59 rfl (hs := idxF_ct (X := X) (l := l) hS hn)) rfl rfl rfl ?_
 rintro _ _ ⟨⟨r, hr⟩, rfl, hA⟩
 simp only [List.cons_append, List.nil_append] at hA
 replace hA := hA.symm
 subst hA
 refine WL_r (Rd_geq rfl rfl) rfl ?_
 refine WL_r (Rd_assign rfl) rfl ?_
 refine WL_end hK2 ?_
 refine WC_ret ?_
 exact hret.gfE () (Rs1 rfl rfl) (by rcases hr with ⟨h1, h2⟩ | ⟨h1, h2⟩ <;> simp [h2] <;> omega)

theorem prob_ct {X : Asn} {v : Value} {l : List Nat} {ao : Option Addr} {cap : Nat} (hS : Sv [X] v 1 eF l ao cap) (hn : l.length ≤ 900000000000) : Ct Try.prog 33 [v] [X] (fun _ : Unit => .bool (oddsOk l)) (fun _ => [X]) := by
 refine Ct_body (n := 6) Try.func33 rfl rfl rfl fun F w0 Q hret hnorm hp => ?_
 change WC _ _ _ _ _ _ _ (_ :: F)
 refine WC_sr fun K1 hK1 => ?_
 refine WL_r (Rd_assign rfl) rfl ?_
 refine WL_end hK1 ?_
 refine WC_sr fun K2 hK2 => ?_
 refine WL_r (Rd_move rfl) rfl ?_
 refine WL_ac (Ac_call cf51 rfl (hs := conF_ct (X := X) (l := l) hS hn)) rfl rfl rfl ?_
 rintro _ _ ⟨⟨⟩, rfl, hA⟩
 simp only [List.cons_append, List.nil_append] at hA
 replace hA := hA.symm
 subst hA
 refine WL_r (Rd_not rfl) rfl ?_
 refine WL_r (Rd_assign rfl) rfl ?_
 refine WL_end hK2 ?_
 refine WC_ret ?_
 exact hret.gfE () (Rs1 rfl rfl) (by simp)

theorem taken_ct {ga cap n c x : Nat} {p : List Nat} (hpl : p.length = n) (hpU : Un p) (hx : U x) (hc : 1 ≤ c ∧ c ≤ n) (hn : n ≤ 900000000000) : Ct Try.prog 34 [sl (some ga) n cap, .int .i64 ((c : Nat) : Int), .float .f64 x] [arr (some ga) cap 1 35 eF p] (fun _ : Unit => .tuple #[]) (fun _ => [arr (some ga) cap 1 35 eF (takenM p c x)]) := by
 refine Ct_body (n := 52) Try.func34 rfl rfl rfl fun F w0 Q hret hnorm hp => ?_
 change WC _ _ _ _ _ _ _ (_ :: F)
 have hy := fsub_ok hx
 have htl := takenM_len p c x
 refine WC_sr fun K1 hK1 => ?_
 refine WL_r (Rd_move rfl) rfl ?_
 refine WL_r (Rd_valE (v := .float .f64 (fsub ONE x)) (Rd_fop (a := ONE) rfl rfl hy.1) (rfl)) rfl ?_
 refine WL_r (Rd_assign rfl) rfl ?_
 refine WL_end hK1 ?_
 refine WC_seq fun K2 hK2 => ?_
 refine WC_sr fun K3 hK3 => ?_
 refine WL_r (Rd_move rfl) rfl ?_
 refine WL_r (Rd_len rfl rfl ud34) rfl ?_
 refine WL_r (Rd_subN (j := 1) rfl rfl) rfl ?_
 refine WL_r (Rd_valE (v := .int .i64 (((n : Nat) : Int) - 1)) (Rd_assign rfl) (by congr 1; omega)) rfl ?_
 refine WL_end hK3 ?_
 refine WC_block ?_
 rw [show arr (some ga) cap 1 35 eF p = arr (some ga) cap 1 35 eF (mixL p (takenM p c x) n) from by rw [← hpl, mixL_all htl]]
 refine WC_loopK (σ := Nat) (fun m => [(7, .int .i64 (((m : Nat) : Int) - 1))]) (fun m => [arr (some ga) cap 1 35 eF (mixL p (takenM p c x) m)]) (fun m => c ≤ m ∧ m ≤ n) (fun m => m) (n) [0, 1, 2, 6, 8, 37, 38, 39, 40, 41, 42, 43, 44, 45, 46, 47, 48, 49, 50, 51] kpA (by (try dsimp only); repeat (first | with_reducible exact Gv.nil | (with_reducible apply Gv.cons; · (repeat (first | with_reducible exact Ext.here | with_reducible apply Ext.there))))) ?_ ?_ Sub.refl ?_
 ·exact (by omega)
 ·(try dsimp only); exact (Wk.cons lkA Wk.nil)
 ·rintro m hm K4 hK4
  simp only [List.cons_append, List.nil_append]
  refine WC_seq fun K5 hK5 => ?_
  refine WC_sr fun K6 hK6 => ?_
  refine WL_r (Rd_move rfl) rfl ?_
  refine WL_r (Rd_move rfl) rfl ?_
  refine WL_r (Rd_geq rfl rfl) rfl ?_
  refine WL_end hK6 ?_
  refine WC_cond rfl (fun hc0 => ?_) (fun hc0 => ?_)
  ·try simp only [dz, ne_eq] at hc0
   obtain ⟨k, rfl⟩ : ∃ k, m = k + 1 := ⟨m - 1, by omega⟩
   refine WC_skip ?_
   refine Ps_next hK5 ?_
   refine WC_seq fun K7 hK7 => ?_
   refine WC_block ?_
   refine WC_drawA mix (fun i => ([2, 2, 2, 2, 2, 2, 2, 2, 2, 2, 2, 2, 2, 2, 2, 2, 2, 2, 0] : List Nat).getD i 0) ?_
   refine WJ_tp 0 rfl (Rd_move rfl) rfl (hp _ _) ?_
   refine WJ_tp 1 rfl (Rd_valE (v := .int .i64 ((k : Nat) : Int)) (Rd_move rfl) (by congr 1; omega)) rfl (hp _ _) ?_
   refine WJ_tp 2 rfl (Rd_move rfl) rfl (hp _ _) ?_
   refine WJ_tp 3 rfl (Rd_valE (v := .int .i64 ((k : Nat) : Int)) (Rd_move rfl) (by congr 1; omega)) rfl (hp _ _) ?_
   refine WJ_tp 4 rfl (Rd_index k rfl rfl ud34 sz35 (hj := by omega)) rfl (hp _ _) ?_
   refine WJ_tk 5 (Rd_load_arr (i := k) (j := 0) rfl tk35 (hl := mixL_lo (by omega) (by omega))) hp ?_ rfl (by kernel_rfl) rfl rfl rfl
   refine WJ_tp 6 rfl (Rd_move rfl) rfl (hp _ _) ?_
   refine WJ_tp 7 rfl (Rd_fop rfl rfl (fmul_y (hpU.at k) hx).1) rfl (hp _ _) ?_
   refine WJ_tp 8 rfl (Rd_move rfl) rfl (hp _ _) ?_
   refine WJ_tp 9 rfl (Rd_valE (v := .int .i64 ((k : Nat) : Int)) (Rd_move rfl) (by congr 1; omega)) rfl (hp _ _) ?_
   refine WJ_tp 10 rfl (Rd_move rfl) rfl (hp _ _) ?_
   refine WJ_tp 11 rfl (Rd_subN rfl rfl) rfl (hp _ _) ?_
   refine WJ_tp 12 rfl (Rd_index (k - c) rfl rfl ud34 sz35 (hj := by omega)) rfl (hp _ _) ?_
   refine WJ_tk 13 (Rd_load_arr (i := k - c) (j := 0) rfl tk35 (hl := mixL_lo (by omega) (by omega))) hp ?_ rfl (by kernel_rfl) rfl rfl rfl
   refine WJ_tp 14 rfl (Rd_move rfl) rfl (hp _ _) ?_
   refine WJ_tp 15 rfl (Rd_fop rfl rfl (fmul_x (hpU.at (k - c)) hx)) rfl (hp _ _) ?_
   refine WJ_tp 16 rfl (Rd_fop rfl rfl (fadd_xy (hpU.at k) (hpU.at (k - c)) hx).1) rfl (hp _ _) ?_
   refine WJ_tp 17 rfl (Rd_index k rfl rfl ud34 sz35 (hj := by omega)) rfl (hp _ _) ?_
   refine WJ_all (rs := [18]) (by kernel_rfl) rfl ?_
   refine WI_one ?_
   refine WI_ac0 rfl (Ac_store_arr (fadd (fmul (p.getD k 0) (fsub ONE x)) (fmul (p.getD (k - c) 0) x)) rfl rfl sz35 (i := k) (j := 0) (hl := mixL_lo (by omega) (by omega))) rfl rfl rfl ?_
   rintro _ _ rfl
   refine ⟨(fun h => by cases h), ?_⟩
   refine WJ_done (by kernel_rfl) ?_
   refine Ps_next hK7 ?_
   refine WC_region ?_
   rw [mixL_set htl (by omega) (by rw [takenM_at (by omega)]; unfold takeAt; rw [if_pos (by omega)])]
   refine WL_r (Rd_move rfl) rfl ?_
   refine WL_r (Rd_sub' (r := ((k : Nat) : Int) - 1) rfl rfl (wr64 (by omega) (by omega) (by omega))) rfl ?_
   refine WL_r (Rd_assign rfl) rfl ?_
   refine WL_nil ?_
   refine Ps_wkB (hK4 (k) (by omega) (by omega))
  ·try simp only [dz, ne_eq] at hc0
   obtain rfl : c = m := by omega
   refine WC_exit ?_
   refine Ps_next hK2 ?_
   refine WC_sr fun K8 hK8 => ?_
   refine WL_r (Rd_move rfl) rfl ?_
   refine WL_r (Rd_sub' (r := ((c : Nat) : Int) - 1) rfl rfl (wr64 (by omega) (by omega) (by omega))) rfl ?_
   refine WL_r (Rd_assign rfl) rfl ?_
   refine WL_end hK8 ?_
   refine WC_block ?_
   refine WC_loopK (σ := Nat) (fun q => [(8, .int .i64 (((q : Nat) : Int) - 1))]) (fun q => [arr (some ga) cap 1 35 eF (mixL p (takenM p c x) q)]) (fun q => q ≤ c) (fun q => q) (c) [0, 6] kpA (by (try dsimp only); repeat (first | with_reducible exact Gv.nil | (with_reducible apply Gv.cons; · (repeat (first | with_reducible exact Ext.here | with_reducible apply Ext.there))))) ?_ ?_ Sub.refl ?_
   ·exact Nat.le_refl _
   ·(try dsimp only); exact (Wk.cons lkA Wk.nil)
   ·rintro q hq K9 hK9
    simp only [List.cons_append, List.nil_append]
    refine WC_seq fun K10 hK10 => ?_
    refine WC_sr fun K11 hK11 => ?_
    refine WL_r (Rd_move rfl) rfl ?_
    refine WL_r (Rd_geq rfl rfl) rfl ?_
    refine WL_end hK11 ?_
    refine WC_cond rfl (fun hc1 => ?_) (fun hc1 => ?_)
    ·try simp only [dz, ne_eq] at hc1
     obtain ⟨k, rfl⟩ : ∃ k, q = k + 1 := ⟨q - 1, by omega⟩
     refine WC_skip ?_
     refine Ps_next hK10 ?_
     refine WC_seq fun K12 hK12 => ?_
     refine WC_block ?_
     refine WC_region ?_
     refine WL_r (Rd_move rfl) rfl ?_
     refine WL_r (Rd_valE (v := .int .i64 ((k : Nat) : Int)) (Rd_move rfl) (by congr 1; omega)) rfl ?_
     refine WL_r (Rd_move rfl) rfl ?_
     refine WL_r (Rd_valE (v := .int .i64 ((k : Nat) : Int)) (Rd_move rfl) (by congr 1; omega)) rfl ?_
     refine WL_r (Rd_index k rfl rfl ud34 sz35 (hj := by omega)) rfl ?_
     refine WL_r (Rd_load_arr (i := k) (j := 0) rfl tk35 (hl := mixL_lo (by omega) (by omega))) rfl ?_
     refine WL_r (Rd_move rfl) rfl ?_
     refine WL_r (Rd_fop rfl rfl (fmul_y (hpU.at k) hx).1) rfl ?_
     refine WL_r (Rd_index k rfl rfl ud34 sz35 (hj := by omega)) rfl ?_
     refine WL_ac0 (Ac_store_arr (fmul (p.getD k 0) (fsub ONE x)) rfl rfl sz35 (i := k) (j := 0) (hl := mixL_lo (by omega) (by omega))) rfl rfl ?_
     rintro _ _ rfl
     refine WL_nil ?_
     refine Ps_next hK12 ?_
     refine WC_region ?_
     rw [mixL_set htl (by omega) (by rw [takenM_at (by omega)]; unfold takeAt; rw [if_neg (by omega)])]
     refine WL_r (Rd_move rfl) rfl ?_
     refine WL_r (Rd_sub' (r := ((k : Nat) : Int) - 1) rfl rfl (wr64 (by omega) (by omega) (by omega))) rfl ?_
     refine WL_r (Rd_assign rfl) rfl ?_
     refine WL_nil ?_
     refine Ps_wkB (hK9 (k) (by omega) (by omega))
    ·try simp only [dz, ne_eq] at hc1
     obtain rfl : q = 0 := by omega
     rw [mixL_0]
     refine WC_exit ?_
     exact hnorm.go () (Rs0 rfl)

theorem tail_ct {ga cap n : Nat} {p : List Nat} {k0 : Int} (hpl : p.length = n) (hpU : Un p) (h0 : 1 ≤ n) (hn : n ≤ 900000000000) : Ct Try.prog 35 [sl (some ga) n cap, .int .i64 k0] [arr (some ga) cap 1 35 eF p] (fun _ : Unit => .float .f64 (tailM p k0)) (fun _ => [arr (some ga) cap 1 35 eF p]) := by
 refine Ct_body (n := 23) Try.func35 rfl rfl rfl fun F w0 Q hret hnorm hp => ?_
 change WC _ _ _ _ _ _ _ (_ :: F)
 refine WC_sr fun K1 hK1 => ?_
 refine WL_r (Rd_assign rfl) rfl ?_
 refine WL_end hK1 ?_
 refine WC_sr fun K2 hK2 => ?_
 refine WL_r (Rd_valE (v := .float .f64 (tailF p n)) (Rd_assign rfl) (by rw [tailF_end (by omega)])) rfl ?_
 refine WL_end hK2 ?_
 refine WC_seq fun K3 hK3 => ?_
 refine WC_sr fun K4 hK4 => ?_
 refine WL_r (Rd_move rfl) rfl ?_
 refine WL_r (Rd_len rfl rfl ud34) rfl ?_
 refine WL_r (Rd_subN (j := 1) rfl rfl) rfl ?_
 refine WL_r (Rd_valE (v := .int .i64 (((n : Nat) : Int) - 1)) (Rd_assign rfl) (by congr 1; omega)) rfl ?_
 refine WL_end hK4 ?_
 refine WC_block ?_
 refine WC_loopK (σ := Nat) (fun m => [(5, .float .f64 (tailF p m)), (6, .int .i64 (((m : Nat) : Int) - 1))]) (fun m => []) (fun m => m ≤ n ∧ ((max k0 0).toNat ≤ m ∨ m = n)) (fun m => m) (n) [0, 1, 4, 22] kpA (by (try dsimp only); repeat (first | with_reducible exact Gv.nil | (with_reducible apply Gv.cons; · (repeat (first | with_reducible exact Ext.here | with_reducible apply Ext.there))))) ?_ ?_ Sub.refl ?_
 ·exact (by omega)
 ·(try dsimp only); exact (Wk.cons lkA (Wk.cons lkA Wk.nil))
 ·rintro m hm K5 hK5
  simp only [List.cons_append, List.nil_append]
  refine WC_seq fun K6 hK6 => ?_
  refine WC_sr fun K7 hK7 => ?_
  refine WL_r (Rd_move rfl) rfl ?_
  refine WL_r (Rd_move rfl) rfl ?_
  refine WL_r (Rd_max rfl rfl) rfl ?_
  refine WL_r (Rd_geq rfl rfl) rfl ?_
  refine WL_end hK7 ?_
  refine WC_cond rfl (fun hc0 => ?_) (fun hc0 => ?_)
  ·try simp only [dz, ne_eq] at hc0
   obtain ⟨k, rfl⟩ : ∃ k, m = k + 1 := ⟨m - 1, by omega⟩
   refine WC_skip ?_
   refine Ps_next hK6 ?_
   refine WC_seq fun K8 hK8 => ?_
   refine WC_block ?_
   refine WC_region ?_
   refine WL_r (Rd_move rfl) rfl ?_
   refine WL_r (Rd_move rfl) rfl ?_
   refine WL_r (Rd_valE (v := .int .i64 ((k : Nat) : Int)) (Rd_move rfl) (by congr 1; omega)) rfl ?_
   refine WL_r (Rd_index k rfl rfl ud34 sz35 (hj := by omega)) rfl ?_
   refine WL_r (Rd_load_arr (i := k) (j := 0) (y := p.getD k 0) rfl tk35 (hl := by rw [List.getD_eq_getElem?_getD, List.getElem?_eq_getElem (by omega)]; rfl)) rfl ?_
   refine WL_r (Rd_valE (v := .float .f64 (tailF p k)) (Rd_fop rfl rfl (fadd_nn (tailF_nn hpU n (k + 1) (by omega)) (NN.of_one (hpU.at k))).1) (by rw [tailF_step (p := p) (n := k) (by omega)])) rfl ?_
   refine WL_r (Rd_assign rfl) rfl ?_
   refine WL_nil ?_
   refine Ps_next hK8 ?_
   refine WC_region ?_
   refine WL_r (Rd_move rfl) rfl ?_
   refine WL_r (Rd_sub' (r := ((k : Nat) : Int) - 1) rfl rfl (wr64 (by omega) (by omega) (by omega))) rfl ?_
   refine WL_r (Rd_assign rfl) rfl ?_
   refine WL_nil ?_
   refine Ps_wkB (hK5 (k) (by omega) (by omega))
  ·try simp only [dz, ne_eq] at hc0
   refine WC_exit ?_
   refine Ps_next hK3 ?_
   refine WC_sr fun K9 hK9 => ?_
   refine WL_r (Rd_move rfl) rfl ?_
   refine WL_r (Rd_assign rfl) rfl ?_
   refine WL_end hK9 ?_
   refine WC_ret ?_
   exact hret.gfE () (Rs1 rfl rfl) (tail_fin hpl (by omega))
end Go.Proofs.Ytilmiikfjcdllaa
namespace Go.Proofs.Ytilmiikfjcdllaa
open Go.RowKit Go.SL Go.ShM Go.HyM Go.Fl
set_option maxHeartbeats 1000000
set_option maxRecDepth 20000
set_option linter.all false
theorem cf33 : cfn Try.prog 33 = true := by kernel_rfl
theorem cf34 : cfn Try.prog 34 = true := by kernel_rfl
theorem cf35 : cfn Try.prog 35 = true := by kernel_rfl
theorem el35 : el Try.prog 35 = some (1, 8) := by kernel_rfl
theorem zr35 : zr Try.prog 35 = some [.float .f64 0] := by kernel_rfl
theorem odds_no {X : Asn} {v : Value} {l : List Nat} {ao : Option Addr} {cap : Nat} {k0 : Int} (hS : Sv [X] v 1 eF l ao cap) (hn : l.length ≤ 2000000) (ho : oddsOk l = false) : Ct Try.prog 12 [v, .int .i64 k0] [X] (fun _ : Unit => .tuple #[.float .f64 0, .int .i64 231]) (fun _ => [X]) := by
 refine Ct_body (n := 31) Try.func12 rfl rfl rfl fun F w0 Q hret hnorm hp => ?_
 change WC _ _ _ _ _ _ _ (_ :: F)
 refine WC_sr fun K1 hK1 => ?_
 refine WL_r (Rd_assign rfl) rfl ?_
 refine WL_r (Rd_assign rfl) rfl ?_
 refine WL_end hK1 ?_
 refine WC_seq fun K2 hK2 => ?_
 refine WC_sr fun K3 hK3 => ?_
 refine WL_r (Rd_move rfl) rfl ?_
 refine WL_ac (Ac_call cf33 rfl (hs := prob_ct (X := X) (l := l) hS (by omega))) rfl rfl rfl ?_
 rintro _ _ ⟨⟨⟩, rfl, hA⟩
 simp only [List.cons_append, List.nil_append] at hA
 replace hA := hA.symm
 subst hA
 rw [ho]
 refine WL_r (Rd_not rfl) rfl ?_
 refine WL_end hK3 ?_
 refine WC_condT rfl ?_
 refine WC_sr fun K4 hK4 => ?_
 refine WL_r (Rd_assign rfl) rfl ?_
 refine WL_r (Rd_assign rfl) rfl ?_
 refine WL_end hK4 ?_
 refine WC_ret ?_
 exact hret.gf () (Rs2 rfl rfl rfl)

theorem odds_ok {X : Asn} {v : Value} {l : List Nat} {ao : Option Addr} {cap : Nat} {k0 : Int} (hS : Sv [X] v 1 eF l ao cap) (hn : l.length ≤ 2000000) (hw : ∀ x ∈ l, x < 2 ^ 64) (ho : oddsOk l = true) : Ct Try.prog 12 [v, .int .i64 k0] [X] (fun _ : Unit => .tuple #[.float .f64 (oddsP l k0), .int .i64 0]) (fun _ => [X]) := by
 refine Ct_body (n := 31) Try.func12 rfl rfl rfl fun F w0 Q hret hnorm hp => ?_
 change WC _ _ _ _ _ _ _ (_ :: F)
 have hU := oddsOk_U hw ho
 refine WC_sr fun K1 hK1 => ?_
 refine WL_r (Rd_assign rfl) rfl ?_
 refine WL_r (Rd_assign rfl) rfl ?_
 refine WL_end hK1 ?_
 refine WC_seq fun K2 hK2 => ?_
 refine WC_sr fun K3 hK3 => ?_
 refine WL_r (Rd_move rfl) rfl ?_
 refine WL_ac (Ac_call cf33 rfl (hs := prob_ct (X := X) (l := l) hS (by omega))) rfl rfl rfl ?_
 rintro _ _ ⟨⟨⟩, rfl, hA⟩
 simp only [List.cons_append, List.nil_append] at hA
 replace hA := hA.symm
 subst hA
 rw [ho]
 refine WL_r (Rd_not rfl) rfl ?_
 refine WL_end hK3 ?_
 refine WC_condF rfl ?_
 refine WC_skip ?_
 refine Ps_next hK2 ?_
 refine WC_sr fun K4 hK4 => ?_
 refine WL_r (Rd_move rfl) rfl ?_
 refine WL_r (Rd_len_sv rfl rfl ud34) rfl ?_
 refine WL_r (Rd_addN (j := 1) rfl rfl) rfl ?_
 refine WL_ac (Ac_make (f := eF) encF 0 rfl rfl ud34 el35 zr35) rfl rfl rfl ?_
 rintro _ _ ⟨b15, rfl, rfl⟩
 refine WL_r (Rd_assign rfl) rfl ?_
 refine WL_end hK4 ?_
 refine WC_sr fun K5 hK5 => ?_
 refine WL_r (Rd_move rfl) rfl ?_
 refine WL_r (Rd_index 0 rfl rfl ud34 sz35 (hj := by omega)) rfl ?_
 refine WL_ac0 (Ac_store_arr ONE rfl rfl sz35 (i := 0) (j := 0) (hl := by rw [List.replicate_succ]; rfl)) rfl rfl ?_
 rintro _ _ rfl
 rw [show (List.replicate (l.length + 1) 0).set 0 ONE = begP l.length from rfl]
 refine WL_end hK5 ?_
 refine WC_seq fun K6 hK6 => ?_
 refine WC_sr fun K7 hK7 => ?_
 refine WL_r (Rd_move rfl) rfl ?_
 refine WL_r (Rd_len_sv rfl rfl ud34) rfl ?_
 refine WL_r (Rd_move rfl) rfl ?_
 refine WL_end hK7 ?_
 refine WC_block ?_
 rw [show arr (some b15) (l.length + 1) 1 35 eF (begP l.length) = arr (some b15) (l.length + 1) 1 35 eF (allT (begP l.length) (l.take 0)) from rfl]
 refine WC_loopK (σ := Nat) (fun i => [(20, .int .i64 ((i : Nat) : Int))]) (fun i => [arr (some b15) (l.length + 1) 1 35 eF (allT (begP l.length) (l.take i))]) (fun i => i ≤ l.length) (fun i => l.length - i) (0) [1, 4, 5, 6, 18, 19, 28, 29, 30] kpA (by (try dsimp only); repeat (first | with_reducible exact Gv.nil | (with_reducible apply Gv.cons; · (repeat (first | with_reducible exact Ext.here | with_reducible apply Ext.there))))) ?_ ?_ Sub.refl ?_
 ·exact Nat.zero_le _
 ·(try dsimp only); exact (Wk.cons lkA Wk.nil)
 ·rintro i hi K8 hK8
  simp only [List.cons_append, List.nil_append]
  refine WC_sr fun K9 hK9 => ?_
  refine WL_r (Rd_lssN rfl rfl) rfl ?_
  refine WL_end hK9 ?_
  refine WC_seq fun K10 hK10 => ?_
  refine WC_cond rfl (fun hc1 => ?_) (fun hc1 => ?_)
  ·try simp only [dz, ne_eq] at hc1
   obtain ⟨x, hx⟩ : ∃ x, l[i]? = some x := ⟨_, List.getElem?_eq_getElem (by omega)⟩
   refine WC_skip ?_
   refine Ps_next hK10 ?_
   refine WC_seq fun K11 hK11 => ?_
   refine WC_block ?_
   refine WC_sr fun K12 hK12 => ?_
   refine WL_r (Rd_index_sv i rfl rfl ud34 sz35 (hA := hS) (hi := by omega)) rfl ?_
   refine WL_r (Rd_load_sv (i := i) (j := 0) (y := x) rfl tk35 (hA := hS) (hl := hx) (hv := rfl)) rfl ?_
   refine WL_r (Rd_assign rfl) rfl ?_
   refine WL_end hK12 ?_
   refine WC_region ?_
   refine WL_r (Rd_move rfl) rfl ?_
   refine WL_r (Rd_move rfl) rfl ?_
   refine WL_ac (Ac_call cf34 rfl (hs := taken_ct (ga := b15) (cap := l.length + 1) (n := l.length + 1) (c := 1) (x := x) (p := (allT (begP l.length) (l.take i))) (by rw [allT_len]; unfold begP; simp) (allT_un _ (begP_un _) fun y hy => hU y (List.mem_of_mem_take hy)) (hU x (List.mem_of_getElem? hx)) (by omega) (by omega))) rfl rfl rfl ?_
   rintro _ _ ⟨⟨⟩, rfl, hA⟩
   simp only [List.cons_append, List.nil_append] at hA
   replace hA := hA.symm
   subst hA
   rw [← allT_snoc hx]
   refine WL_nil ?_
   refine Ps_next hK11 ?_
   refine WC_region ?_
   refine WL_r (Rd_addN (j := 1) rfl rfl) rfl ?_
   refine WL_r (Rd_move rfl) rfl ?_
   refine WL_nil ?_
   refine Ps_wkB (hK8 (i + 1) (by omega) (by omega))
  ·try simp only [dz, ne_eq] at hc1
   obtain rfl : i = l.length := by omega
   rw [List.take_length]
   refine WC_exit ?_
   refine Ps_next hK6 ?_
   refine WC_sr fun K13 hK13 => ?_
   refine WL_r (Rd_move rfl) rfl ?_
   refine WL_r (Rd_move rfl) rfl ?_
   refine WL_ac (Ac_call cf35 rfl (hs := tail_ct (ga := b15) (cap := l.length + 1) (n := l.length + 1) (k0 := k0) (p := (allT (begP l.length) l)) (by rw [allT_len]; unfold begP; simp) (allT_un _ (begP_un _) hU) (by omega) (by omega))) rfl rfl rfl ?_
   rintro _ _ ⟨⟨⟩, rfl, hA⟩
   simp only [List.cons_append, List.nil_append] at hA
   replace hA := hA.symm
   subst hA
   refine WL_r (Rd_assign rfl) rfl ?_
   refine WL_r (Rd_assign rfl) rfl ?_
   refine WL_end hK13 ?_
   refine WC_ret ?_
   exact hret.gf () (Rs2 rfl rfl rfl)
end Go.Proofs.Ytilmiikfjcdllaa
namespace Go.Proofs.Ytilmiikfjcdllaa
open Go.RowKit Go.SL Go.ShM Go.HyM Go.Fl Go.SvM Go.Proofs Go.Shelf Go.Sort Go.Lib
set_option maxHeartbeats 1000000
set_option maxRecDepth 20000
set_option linter.all false
theorem cf47 : cfn Try.prog 47 = true := by kernel_rfl
theorem cf48 : cfn Try.prog 48 = true := by kernel_rfl
theorem cf49 : cfn Try.prog 49 = true := by kernel_rfl
theorem cf58 : cfn Try.prog 58 = true := by kernel_rfl
theorem fls24 : fls Try.prog 24 = some [(0, 3), (1, 3)] := by kernel_rfl
theorem fo24_0 : fo Try.prog 24 0 = some (0, 3) := by kernel_rfl
theorem fo24_1 : fo Try.prog 24 1 = some (1, 3) := by kernel_rfl
theorem sz3 : sz Try.prog 3 = some 1 := by kernel_rfl
theorem tk3 : tk Try.prog 3 = some none := by kernel_rfl
theorem ud3 : Try.prog.underlying 3 = some (.int .i64) := by kernel_rfl
theorem ud83 : Try.prog.underlying 83 = some (.slice 3) := by kernel_rfl
theorem zr3 : zr Try.prog 3 = some [.int .i64 0] := by kernel_rfl
theorem zv3 : ∀ w, (zeroValue 3).run Try.prog w = .ok (.int .i64 0) w := fun w => by kernel_rfl
theorem zv83 : ∀ w, (zeroValue 83).run Try.prog w = .ok (.slice none 0 0) w := fun w => by kernel_rfl
def eI (x : Int) : List Value := [.int .i64 x]
theorem encI : Enc eI 1 := ⟨fun _ => rfl, fun x v hv => by simp [eI] at hv; subst hv; rfl⟩
theorem pr_dec (a b : Pr) : (decide (a.1 = b.1) && (decide (a.2 = b.2) && true)) = decide (a = b) := by
  rw [Bool.and_true, Bool.eq_iff_iff]
  simp only [Bool.and_eq_true, decide_eq_true_eq]
  exact ⟨fun h => Prod.ext h.1 h.2, fun h => by rw [h]; exact ⟨rfl, rfl⟩⟩
theorem keyR : KeyT Try.prog 24 kfR := KeyT_struct Try.underlying24 (fun k => ⟨_, rfl⟩) kfR_inj
  (fun a b => by
    have h := Eqs_struct (P := Try.prog) (t := 24) (d := 9999) (xs := ePr a) (ys := ePr b) fls24 (EqL.sc tk3 rfl rfl (Eqs_int ud3 _ _) (EqL.sc tk3 rfl rfl (Eqs_int ud3 _ _) EqL.nil))
    rw [pr_dec] at h
    exact h)
  (fun b k w => check_struct Try.underlying24 (fun f hf w => by
    simp only [List.mem_cons, List.not_mem_nil, or_false] at hf
    rcases hf with rfl | rfl
    · simp only [Sem.run_bind, run_part_sc tk3 (show (ePr k)[0]? = some (.int .i64 k.1) from rfl), Result.andThen_ok]
      exact check_int ud3 w
    · simp only [Sem.run_bind, run_part_sc tk3 (show (ePr k)[1]? = some (.int .i64 k.2) from rfl), Result.andThen_ok]
      exact check_int ud3 w) w)
  (fun k => sameBits_ints (ePr k) (fun v hv => by
    simp only [ePr, List.mem_cons, List.not_mem_nil, or_false] at hv
    rcases hv with rfl | rfl
    · exact ⟨_, _, rfl⟩
    · exact ⟨_, _, rfl⟩))
theorem keyN : KeyT Try.prog 3 kfN := KeyT_int (P := Try.prog) .i64 ud3
theorem zvN : ∀ w, (zeroValue 3).run Try.prog w = .ok (.int .i64 0) w := zv3
theorem zvS : ∀ w, (zeroValue 83).run Try.prog w = .ok (.slice none 0 0) w := zv83
theorem nan_ct {x : Int}  : Ct Try.prog 58 [.int .i64 x] [] (fun _ : Unit => .bool false) (fun _ => []) := by
 refine Ct_body (n := 6) Try.func58 rfl rfl rfl fun F w0 Q hret hnorm hp => ?_
 change WC _ _ _ _ _ _ _ (F)
 refine WC_sr fun K1 hK1 => ?_
 refine WL_r (Rd_assign rfl) rfl ?_
 refine WL_end hK1 ?_
 refine WC_sr fun K2 hK2 => ?_
 refine WL_r (Rd_move rfl) rfl ?_
 refine WL_r (Rd_move rfl) rfl ?_
 refine WL_r (Rd_valE (v := .bool false) (Rd_neq rfl rfl) (by simp)) rfl ?_
 refine WL_r (Rd_assign rfl) rfl ?_
 refine WL_end hK2 ?_
 refine WC_ret ?_
 exact hret.gf () (Rs1 rfl rfl)

theorem cmpI_ct {x y : Int}  : Ct Try.prog 49 [.int .i64 x, .int .i64 y] [] (fun _ : Unit => .int .i64 ((cmpI x y))) (fun _ => []) := by
 refine Ct_body (n := 20) Try.func49 rfl rfl rfl fun F w0 Q hret hnorm hp => ?_
 change WC _ _ _ _ _ _ _ (F)
 refine WC_sr fun K1 hK1 => ?_
 refine WL_r (Rd_assign rfl) rfl ?_
 refine WL_end hK1 ?_
 refine WC_sr fun K2 hK2 => ?_
 refine WL_r (Rd_move rfl) rfl ?_
 refine WL_ac (Ac_call cf58 rfl (hs := nan_ct (x := x))) rfl rfl rfl ?_
 rintro _ _ ⟨⟨⟩, rfl, hA⟩
 simp only [List.cons_append, List.nil_append] at hA
 replace hA := hA.symm
 subst hA
 refine WL_r (Rd_assign rfl) rfl ?_
 refine WL_end hK2 ?_
 refine WC_sr fun K3 hK3 => ?_
 refine WL_r (Rd_move rfl) rfl ?_
 refine WL_ac (Ac_call cf58 rfl (hs := nan_ct (x := y))) rfl rfl rfl ?_
 rintro _ _ ⟨⟨⟩, rfl, hA⟩
 simp only [List.cons_append, List.nil_append] at hA
 replace hA := hA.symm
 subst hA
 refine WL_r (Rd_assign rfl) rfl ?_
 refine WL_end hK3 ?_
 refine WC_seq fun K4 hK4 => ?_
 refine WC_sr fun K5 hK5 => ?_
 refine WL_r (Rd_move rfl) rfl ?_
 refine WL_end hK5 ?_
 refine WC_condF rfl ?_
 refine WC_skip ?_
 refine Ps_next hK4 ?_
 refine WC_seq fun K6 hK6 => ?_
 refine WC_sr fun K7 hK7 => ?_
 refine WL_r (Rd_move rfl) rfl ?_
 refine WL_end hK7 ?_
 refine WC_condF rfl ?_
 refine WC_skip ?_
 refine Ps_next hK6 ?_
 refine WC_seq fun K8 hK8 => ?_
 refine WC_sr fun K9 hK9 => ?_
 refine WL_r (Rd_move rfl) rfl ?_
 refine WL_r (Rd_move rfl) rfl ?_
 refine WL_r (Rd_lss rfl rfl) rfl ?_
 refine WL_end hK9 ?_
 refine WC_cond rfl (fun hc3 => ?_) (fun hc3 => ?_)
 ·try simp only [dz, ne_eq] at hc3
  refine WC_sr fun K10 hK10 => ?_
  refine WL_r (Rd_assign rfl) rfl ?_
  refine WL_end hK10 ?_
  refine WC_ret ?_
  exact hret.gfE () (Rs1 rfl rfl) (by congr 1; unfold cmpI; first | (rw [if_pos (by omega)]) | (rw [if_neg (by omega), if_pos (by omega)]) | (rw [if_neg (by omega), if_neg (by omega)]))
 ·try simp only [dz, ne_eq] at hc3
  refine WC_skip ?_
  refine Ps_next hK8 ?_
  refine WC_seq fun K11 hK11 => ?_
  refine WC_sr fun K12 hK12 => ?_
  refine WL_r (Rd_move rfl) rfl ?_
  refine WL_r (Rd_move rfl) rfl ?_
  refine WL_r (Rd_gtr rfl rfl) rfl ?_
  refine WL_end hK12 ?_
  refine WC_cond rfl (fun hc4 => ?_) (fun hc4 => ?_)
  ·try simp only [dz, ne_eq] at hc4
   refine WC_sr fun K13 hK13 => ?_
   refine WL_r (Rd_assign rfl) rfl ?_
   refine WL_end hK13 ?_
   refine WC_ret ?_
   exact hret.gfE () (Rs1 rfl rfl) (by congr 1; unfold cmpI; first | (rw [if_pos (by omega)]) | (rw [if_neg (by omega), if_pos (by omega)]) | (rw [if_neg (by omega), if_neg (by omega)]))
  ·try simp only [dz, ne_eq] at hc4
   refine WC_skip ?_
   refine Ps_next hK11 ?_
   refine WC_sr fun K14 hK14 => ?_
   refine WL_r (Rd_assign rfl) rfl ?_
   refine WL_end hK14 ?_
   refine WC_ret ?_
   exact hret.gfE () (Rs1 rfl rfl) (by congr 1; unfold cmpI; first | (rw [if_pos (by omega)]) | (rw [if_neg (by omega), if_pos (by omega)]) | (rw [if_neg (by omega), if_neg (by omega)]))

theorem or_ct {b : Nat} {c1 c2 : Int}  : Ct Try.prog 48 [sl (some b) 2 2] [arr (some b) 2 1 3 eI [c1, c2]] (fun _ : Unit => .int .i64 ((if c1 ≠ 0 then c1 else c2))) (fun _ => [arr (some b) 2 1 3 eI [c1, c2]]) := by
 refine Ct_body (n := 18) Try.func48 rfl rfl rfl fun F w0 Q hret hnorm hp => ?_
 change WC _ _ _ _ _ _ _ (_ :: F)
 refine WC_sr fun K1 hK1 => ?_
 refine WL_r (Rd_assign rfl) rfl ?_
 refine WL_end hK1 ?_
 refine WC_sr fun K2 hK2 => ?_
 refine WL_r (Rd_assign rfl) rfl ?_
 refine WL_end hK2 ?_
 refine WC_seq fun K3 hK3 => ?_
 refine WC_sr fun K4 hK4 => ?_
 refine WL_r (Rd_move rfl) rfl ?_
 refine WL_r (Rd_len rfl rfl ud83) rfl ?_
 refine WL_r (Rd_move rfl) rfl ?_
 refine WL_end hK4 ?_
 refine WC_block ?_
 refine WC_loopK (σ := Nat) (fun i => [(8, .int .i64 ((i : Nat) : Int))]) (fun i => []) (fun i => i ≤ 2 ∧ (0 < i → c1 = 0) ∧ (1 < i → c2 = 0)) (fun i => 2 - i) (0) [3, 6, 7, 17] kpA (by (try dsimp only); repeat (first | with_reducible exact Gv.nil | (with_reducible apply Gv.cons; · (repeat (first | with_reducible exact Ext.here | with_reducible apply Ext.there))))) ?_ ?_ Sub.refl ?_
 ·exact ⟨Nat.zero_le _, fun h => by omega, fun h => by omega⟩
 ·(try dsimp only); exact (Wk.cons lkA Wk.nil)
 ·rintro i ⟨hi, h1, h2⟩ K5 hK5
  simp only [List.cons_append, List.nil_append]
  refine WC_sr fun K6 hK6 => ?_
  refine WL_r (Rd_lssN rfl rfl) rfl ?_
  refine WL_end hK6 ?_
  refine WC_seq fun K7 hK7 => ?_
  refine WC_cond rfl (fun hc0 => ?_) (fun hc0 => ?_)
  ·try simp only [dz, ne_eq] at hc0
   obtain ⟨x, hx⟩ : ∃ x, ([c1, c2] : List Int)[i]? = some x := ⟨_, List.getElem?_eq_getElem (show i < 2 by omega)⟩
   refine WC_skip ?_
   refine Ps_next hK7 ?_
   refine WC_seq fun K8 hK8 => ?_
   refine WC_block ?_
   refine WC_sr fun K9 hK9 => ?_
   refine WL_r (Rd_index i rfl rfl ud83 sz3 (hj := by omega)) rfl ?_
   refine WL_r (Rd_load_arr (i := i) (j := 0) (y := x) rfl tk3 (hl := hx)) rfl ?_
   refine WL_r (Rd_assign rfl) rfl ?_
   refine WL_end hK9 ?_
   refine WC_sr fun K10 hK10 => ?_
   refine WL_r (Rd_move rfl) rfl ?_
   refine WL_r (Rd_move rfl) rfl ?_
   refine WL_r (Rd_neq rfl rfl) rfl ?_
   refine WL_end hK10 ?_
   refine WC_cond rfl (fun hc1 => ?_) (fun hc1 => ?_)
   ·try simp only [dz, ne_eq] at hc1
    refine WC_sr fun K11 hK11 => ?_
    refine WL_r (Rd_move rfl) rfl ?_
    refine WL_r (Rd_assign rfl) rfl ?_
    refine WL_end hK11 ?_
    refine WC_ret ?_
    exact hret.gfE () (Rs1 rfl rfl) (or_hit hx (by first | exact hc1 | simpa using hc1) h1)
   ·try simp only [dz, ne_eq] at hc1
    refine WC_skip ?_
    refine Ps_next hK8 ?_
    refine WC_region ?_
    refine WL_r (Rd_addN (j := 1) rfl rfl) rfl ?_
    refine WL_r (Rd_move rfl) rfl ?_
    refine WL_nil ?_
    refine Ps_wkB (hK5 (i + 1) (or_step hi hx (by first | exact hc1 | simpa using hc1) h1 h2) (by omega))
  ·try simp only [dz, ne_eq] at hc0
   refine WC_exit ?_
   refine Ps_next hK3 ?_
   refine WC_sr fun K12 hK12 => ?_
   refine WL_r (Rd_move rfl) rfl ?_
   refine WL_r (Rd_assign rfl) rfl ?_
   refine WL_end hK12 ?_
   refine WC_ret ?_
   exact hret.gfE () (Rs1 rfl rfl) (or_end (h1 (by omega)) (h2 (by omega)))

theorem cfP_ct {x y : Pr}  : Ct Try.prog 47 [.agg (ePr x).toArray, .agg (ePr y).toArray] [] (fun _ : Unit => .int .i64 ((cfP x y))) (fun _ => []) := by
 refine Ct_body (n := 17) Try.func47 rfl rfl rfl fun F w0 Q hret hnorm hp => ?_
 change WC _ _ _ _ _ _ _ (F)
 refine WC_sr fun K1 hK1 => ?_
 refine WL_ac (Ac_box (xs := ePr x) rfl rfl) rfl rfl rfl ?_
 rintro _ _ ⟨b2, rfl, rfl⟩
 refine WL_ac (Ac_box (xs := ePr y) rfl rfl) rfl rfl rfl ?_
 rintro _ _ ⟨b3, rfl, rfl⟩
 refine WL_r (Rd_assign rfl) rfl ?_
 refine WL_end hK1 ?_
 refine WC_seq fun K2 hK2 => ?_
 refine WC_drawA mix (fun i => ([2, 2, 2, 2, 1, 2, 2, 2, 2, 1, 1, 1, 2] : List Nat).getD i 0) ?_
 refine WJ_tp 0 rfl (Rd_fieldAddr rfl fo24_0) rfl (hp _ _) ?_
 refine WJ_tk 1 (Rd_load rfl tk3 (v := .int .i64 x.1)) hp ?_ rfl (by kernel_rfl) rfl rfl rfl
 refine WJ_tp 2 rfl (Rd_fieldAddr rfl fo24_0) rfl (hp _ _) ?_
 refine WJ_tk 3 (Rd_load rfl tk3 (v := .int .i64 y.1)) hp ?_ rfl (by kernel_rfl) rfl rfl rfl
 refine WJ_tp 5 rfl (Rd_fieldAddr rfl fo24_1) rfl (hp _ _) ?_
 refine WJ_tk 6 (Rd_load rfl tk3 (v := .int .i64 x.2)) hp ?_ rfl (by kernel_rfl) rfl rfl rfl
 refine WJ_tp 7 rfl (Rd_fieldAddr rfl fo24_1) rfl (hp _ _) ?_
 refine WJ_tk 8 (Rd_load rfl tk3 (v := .int .i64 y.2)) hp ?_ rfl (by kernel_rfl) rfl rfl rfl
 refine WJ_all (rs := [4]) (by kernel_rfl) rfl ?_
 refine WI_one ?_
 refine WI_ac rfl (Ac_call cf49 rfl (hs := cmpI_ct (x := x.1) (y := y.1))) rfl rfl rfl rfl ?_
 rintro _ _ ⟨⟨⟩, rfl, hA⟩
 simp only [List.cons_append, List.nil_append] at hA
 replace hA := hA.symm
 subst hA
 refine ⟨(fun _ => subF), ?_⟩
 refine WJ_all (rs := [9]) (by kernel_rfl) rfl ?_
 refine WI_one ?_
 refine WI_ac rfl (Ac_call cf49 rfl (hs := cmpI_ct (x := x.2) (y := y.2))) rfl rfl rfl rfl ?_
 rintro _ _ ⟨⟨⟩, rfl, hA⟩
 simp only [List.cons_append, List.nil_append] at hA
 replace hA := hA.symm
 subst hA
 refine ⟨(fun _ => subF), ?_⟩
 refine WJ_all (rs := [10]) (by kernel_rfl) rfl ?_
 refine WI_one ?_
 refine WI_ac rfl (Ac_bsL (f := eI) (zs := [.int .i64 0]) (bs := [.int .i64 0, .int .i64 0]) [cmpI x.1 y.1, cmpI x.2 y.2] encI ud83 zr3 sz3 rfl (by rw [Array.toList_map, Array.toList_range]; rfl) (by rfl) (by rfl) (by rfl) (by rfl)) rfl rfl rfl rfl ?_
 rintro _ _ ⟨b15, rfl, rfl⟩
 refine ⟨(fun _ => subF), ?_⟩
 refine WJ_all (rs := [11]) (by kernel_rfl) rfl ?_
 refine WI_one ?_
 refine WI_ac rfl (Ac_call cf48 rfl (hs := or_ct (b := b15) (c1 := cmpI x.1 y.1) (c2 := cmpI x.2 y.2))) rfl rfl rfl rfl ?_
 rintro _ _ ⟨⟨⟩, rfl, hA⟩
 simp only [List.cons_append, List.nil_append] at hA
 replace hA := hA.symm
 subst hA
 refine ⟨(fun _ => subF), ?_⟩
 refine WJ_tp 12 rfl (Rd_assign rfl) rfl (hp _ _) ?_
 refine WJ_done (by kernel_rfl) ?_
 refine Ps_next hK2 ?_
 refine WC_ret ?_
 exact hret.gfE () (Rs1 rfl rfl) rfl

def sortK_ren : Go.Shelf.Ren := ⟨fun | 6 => 56 | 14 => 61 | 15 => 62 | 20 => 63 | 21 => 64 | 22 => 65 | 23 => 66 | 24 => 67 | 25 => 68 | 26 => 69 | 27 => 70 | 28 => 71 | 29 => 72 | 46 => 73 | 47 => 74 | 48 => 75 | 49 => 76 | 50 => 77 | 57 => 78 | n => n, fun | 0 => 0 | 3 => 3 | 4 => 4 | 5 => 5 | 9 => 9 | 22 => 22 | 24 => 24 | 25 => 81 | 39 => 97 | 45 => 99 | 46 => 100 | 50 => 104 | 53 => 107 | 55 => 109 | 66 => 110 | 70 => 114 | 76 => 116 | 77 => 117 | n => n, fun | n => n⟩
theorem sortK : Go.Proofs.SlLaysF0.n6 Try.prog sortK_ren := {
  mixed := by kernel_rfl
  f6 := ⟨Try.f56.name, by decide, Try.func56.trans (congrArg some (by kernel_rfl))⟩
  f14 := ⟨Try.f61.name, by decide, Try.func61.trans (congrArg some (by kernel_rfl))⟩
  f15 := Try.func62.trans (congrArg some (by kernel_rfl))
  f20 := ⟨Try.f63.name, by decide, Try.func63.trans (congrArg some (by kernel_rfl))⟩
  f21 := ⟨Try.f64.name, by decide, Try.func64.trans (congrArg some (by kernel_rfl))⟩
  f22 := ⟨Try.f65.name, by decide, Try.func65.trans (congrArg some (by kernel_rfl))⟩
  f23 := ⟨Try.f66.name, by decide, Try.func66.trans (congrArg some (by kernel_rfl))⟩
  f24 := ⟨Try.f67.name, by decide, Try.func67.trans (congrArg some (by kernel_rfl))⟩
  f25 := ⟨Try.f68.name, by decide, Try.func68.trans (congrArg some (by kernel_rfl))⟩
  f26 := ⟨Try.f69.name, by decide, Try.func69.trans (congrArg some (by kernel_rfl))⟩
  f27 := ⟨Try.f70.name, by decide, Try.func70.trans (congrArg some (by kernel_rfl))⟩
  f28 := Try.func71.trans (congrArg some (by kernel_rfl))
  f29 := Try.func72.trans (congrArg some (by kernel_rfl))
  f46 := ⟨Try.f73.name, by decide, Try.func73.trans (congrArg some (by kernel_rfl))⟩
  f47 := Try.func74.trans (congrArg some (by kernel_rfl))
  f48 := Try.func75.trans (congrArg some (by kernel_rfl))
  f49 := ⟨Try.f76.name, by decide, Try.func76.trans (congrArg some (by kernel_rfl))⟩
  f50 := ⟨Try.f77.name, by decide, Try.func77.trans (congrArg some (by kernel_rfl))⟩
  f57 := ⟨Try.f78.name, by decide, Try.func78.trans (congrArg some (by kernel_rfl))⟩
  t0 := Try.underlying0
  a0 := Try.isAgg0
  z0 := Try.sizeOf0
  v0 := Try.zeroValue0
  t3 := Try.underlying3
  a3 := Try.isAgg3
  z3 := Try.sizeOf3
  v3 := Try.zeroValue3
  t4 := Try.underlying4
  a4 := Try.isAgg4
  z4 := Try.sizeOf4
  v4 := Try.zeroValue4
  t5 := Try.underlying5
  a5 := Try.isAgg5
  z5 := Try.sizeOf5
  v5 := Try.zeroValue5
  t9 := Try.underlying9
  a9 := Try.isAgg9
  z9 := Try.sizeOf9
  v9 := Try.zeroValue9
  t22 := Try.underlying22
  a22 := Try.isAgg22
  z22 := Try.sizeOf22
  v22 := Try.zeroValue22
  t25 := Try.underlying81
  a25 := Try.isAgg81
  z25 := Try.sizeOf81
  v25 := Try.zeroValue81
  t39 := Try.underlying97
  a39 := Try.isAgg97
  z39 := Try.sizeOf97
  v39 := Try.zeroValue97
  t45 := Try.underlying99
  a45 := Try.isAgg99
  z45 := Try.sizeOf99
  v45 := Try.zeroValue99
  t46 := Try.underlying100
  a46 := Try.isAgg100
  z46 := Try.sizeOf100
  v46 := Try.zeroValue100
  t50 := Try.underlying104
  a50 := Try.isAgg104
  z50 := Try.sizeOf104
  v50 := Try.zeroValue104
  t53 := Try.underlying107
  a53 := Try.isAgg107
  z53 := Try.sizeOf107
  v53 := Try.zeroValue107
  t55 := Try.underlying109
  a55 := Try.isAgg109
  z55 := Try.sizeOf109
  v55 := Try.zeroValue109
  t66 := Try.underlying110
  a66 := Try.isAgg110
  z66 := Try.sizeOf110
  v66 := Try.zeroValue110
  t70 := Try.underlying114
  a70 := Try.isAgg114
  z70 := Try.sizeOf114
  v70 := Try.zeroValue114
  t76 := Try.underlying116
  a76 := Try.isAgg116
  z76 := Try.sizeOf116
  v76 := Try.zeroValue116
  t77 := Try.underlying117
  a77 := Try.isAgg117
  z77 := Try.sizeOf117
  v77 := Try.zeroValue117
}

theorem sortPr_ct {a : Option Nat} {cap : Nat} {l ks : List Pr} (hl : l.Pairwise prLt) (p : ks.Perm l) (hn : ks.length < 4611686018427387904) :
    Ct Try.prog 56 [sl a ks.length cap, .func (.func 47) #[] #[]] [arr a cap 2 24 ePr ks] (fun _ : Unit => .tuple #[]) (fun _ => [arr a cap 2 24 ePr l]) := by
  have h := Ct_sortK sortK 2 (fun w => by kernel_rfl) (fun w => by kernel_rfl) ePr (fun x => rfl) (fun x => encPr.one x) cfP cfP_swo cfP_tot 47 [] cf47 [] (fun x y => cfP_ct) a cap 24 ks hn
  rw [sortPr p hl] at h
  exact h
end Go.Proofs.Ytilmiikfjcdllaa
namespace Go.Proofs.Ytilmiikfjcdllaa
open Go.RowKit Go.SL Go.ShM Go.HyM Go.Fl Go.SvM
set_option maxHeartbeats 1000000
set_option maxRecDepth 20000
set_option linter.all false
theorem cf55 : cfn Try.prog 55 = true := by kernel_rfl
theorem cf56 : cfn Try.prog 56 = true := by kernel_rfl
theorem cf57 : cfn Try.prog 57 = true := by kernel_rfl
theorem cf60 : cfn Try.prog 60 = true := by kernel_rfl
theorem el24 : el Try.prog 24 = some (2, 16) := by kernel_rfl
theorem sz22 : sz Try.prog 22 = some 1 := by kernel_rfl
theorem sz24 : sz Try.prog 24 = some 2 := by kernel_rfl
theorem tk22 : tk Try.prog 22 = some none := by kernel_rfl
theorem tk24 : tk Try.prog 24 = some (some 2) := by kernel_rfl
theorem tk74 : tk Try.prog 74 = some none := by kernel_rfl
theorem ud22 : Try.prog.underlying 22 = some (.slice 24) := by kernel_rfl
theorem ud74 : Try.prog.underlying 74 = some (.map 24 3) := by kernel_rfl
theorem zr24 : zr Try.prog 24 = some [.int .i64 0, .int .i64 0] := by kernel_rfl
theorem pk_ct {m : Nat}  : Ct Try.prog 46 [.map (some m)] [] (fun g : Nat => .func (.func 57) #[] #[.pointer (some ⟨g, 0, none⟩)]) (fun g => [cl g 74 [.map (some m)]]) := by
 refine Ct_body (n := 4) Try.func46 rfl rfl rfl fun F w0 Q hret hnorm hp => ?_
 change WC _ _ _ _ _ _ _ (F)
 refine WC_sr fun K1 hK1 => ?_
 refine WL_ac (Ac_box (xs := [.map (some m)]) rfl rfl) rfl rfl rfl ?_
 rintro _ _ ⟨b1, rfl, rfl⟩
 refine WL_r (Rd_assign rfl) rfl ?_
 refine WL_end hK1 ?_
 refine WC_sr fun K2 hK2 => ?_
 refine WL_r (Rd_makeFunc rfl rfl) rfl ?_
 refine WL_r (Rd_assign rfl) rfl ?_
 refine WL_end hK2 ?_
 refine WC_ret ?_
 exact hret.gf b1 (Rs1 rfl rfl)

theorem pkIt_ct {l p m : Nat} {L : List (Pr × Int)} {X : List Pr → Asn} (hL : L.length ≤ 100000000) (hy : ∀ (dn : List Pr) (k : Pr), dn.length < 100000000 → Yd Try.prog l [kfR k] [X dn] (fun _ : Unit => .bool true) (fun _ => [X (dn ++ [k])])) : Ct Try.prog 57 [yv l, .pointer (some ⟨p, 0, none⟩)] [cl p 74 [.map (some m)], mpP m kfR vfN L, X []] (fun g : {ks : List Pr // ks.Perm (keysL L)} => .tuple #[]) (fun g => [cl p 74 [.map (some m)], mpP m kfR vfN L, X g.1]) := by
 refine Ct_body (n := 14) Try.func57 rfl rfl rfl fun F w0 Q hret hnorm hp => ?_
 change WC _ _ _ _ _ _ _ (_ :: _ :: _ :: F)
 refine WC_sr fun K1 hK1 => ?_
 refine WL_r (Rd_load rfl tk74 (v := .map (some m))) rfl ?_
 refine WL_ac (Ac_range (κ := Pr) (β := Int) rfl ud74) rfl rfl rfl ?_
 rintro _ _ ⟨r5, rfl, rfl⟩
 refine WL_end hK1 ?_
 refine WC_block ?_
 rw [show X [] = X (keysL ([] : List (Pr × Int))) from rfl]
 refine WC_loopK (σ := (List (Pr × Int)) × (List (Pr × Int))) (fun ⟨ts, dn⟩ => []) (fun ⟨ts, dn⟩ => [mpN m r5 kfR vfN (dn ++ ts) ts none, X (keysL dn)]) (fun ⟨ts, dn⟩ => (dn ++ ts).Perm L) (fun ⟨ts, dn⟩ => ts.length) ⟨L, []⟩ [0, 5] kpA (by (try dsimp only); (try simp only [List.nil_append]); repeat (first | with_reducible exact Gv.nil | (with_reducible apply Gv.cons; · (repeat (first | with_reducible exact Ext.here | with_reducible apply Ext.there))))) ?_ ?_ Sub.refl ?_
 ·exact List.Perm.refl _
 ·(try dsimp only); exact Wk.nil
 ·rintro ⟨ts, dn⟩ hpl K2 hK2
  simp only [List.cons_append, List.nil_append]
  refine WC_sr fun K3 hK3 => ?_
  refine WL_ac (Ac_next (κ := Pr) (β := Int) (kf := kfR) (vf := vfN) kfR_inj rfl) rfl rfl rfl ?_
  rintro _ _ (⟨hre, rfl, rfl⟩ | ⟨k, v, pre, post, hre, rfl, rfl⟩)
  ·skip
   subst hre
   refine WL_rep (mpN m r5 kfR vfN (dn ++ []) [] none) (mpP m kfR vfN L) (mpN_fin hpl) ?_
   have hpk : (keysL dn).Perm (keysL L) := by have h : (dn ++ []).Perm L := hpl; rw [List.append_nil] at h; exact h.map _
   refine WL_r (Rd_ext0 rfl) rfl ?_
   refine WL_end hK3 ?_
   refine WC_seq fun K4 hK4 => ?_
   refine WC_condF rfl ?_
   refine WC_exit ?_
   exact hnorm.go ⟨keysL dn, hpk⟩ (Rs0 rfl)
  ·skip
   subst hre
   have hdl : (keysL dn).length < 100000000 := by have h : (dn ++ (pre ++ (k, v) :: post)).Perm L := hpl; replace h := h.length_eq; rw [List.length_append, List.length_append, List.length_cons] at h; unfold keysL; rw [List.length_map]; omega
   refine WL_r (Rd_ext0 rfl) rfl ?_
   refine WL_end hK3 ?_
   refine WC_seq fun K5 hK5 => ?_
   refine WC_condT rfl ?_
   refine WC_skip ?_
   refine Ps_next hK5 ?_
   refine WC_block ?_
   refine WC_sr fun K6 hK6 => ?_
   refine WL_r (Rd_entry rfl) rfl ?_
   refine WL_r (Rd_ext0 rfl) rfl ?_
   refine WL_ac (Ac_alloc zr24) rfl rfl rfl ?_
   rintro _ _ ⟨b3, rfl, rfl⟩
   refine WL_ac0 (Ac_store (ys := ePr k) rfl rfl sz24 (h1 := encPr.one k) (hv := rfl) (hr := rfl)) rfl rfl ?_
   rintro _ _ rfl
   refine WL_end hK6 ?_
   refine WC_sr fun K7 hK7 => ?_
   refine WL_r (Rd_move rfl) rfl ?_
   refine WL_r (Rd_loadg (vs := ePr k) rfl tk24) rfl ?_
   refine WL_ac (Ac_yield rfl rfl (hy (keysL dn) k hdl)) rfl rfl rfl ?_
   rintro _ _ ⟨⟨⟩, rfl, hA⟩
   simp only [List.cons_append, List.nil_append] at hA
   replace hA := hA.symm
   subst hA
   rw [keysL_snoc (v := v)]
   refine WL_rep (mpN m r5 kfR vfN (dn ++ (pre ++ (k, v) :: post)) (pre ++ post) (some (k, v))) (mpN m r5 kfR vfN ((dn ++ [(k, v)]) ++ (pre ++ post)) (pre ++ post) none) (mpN_rep yield_perm) ?_
   refine WL_r (Rd_not rfl) rfl ?_
   refine WL_end hK7 ?_
   refine WC_condF rfl ?_
   refine WC_skip ?_
   refine Ps_wkB (hK2 ⟨pre ++ post, dn ++ [(k, v)]⟩ (yield_perm.symm.trans hpl) (by (try dsimp only); rw [List.length_append, List.length_append, List.length_cons]; omega))

theorem pkApp_ct {p m : Nat} {L : List (Pr × Int)} (hL : L.length ≤ 100000000) : Ct Try.prog 60 [.slice none 0 0, .func (.func 57) #[] #[.pointer (some ⟨p, 0, none⟩)]] [cl p 74 [.map (some m)], mpP m kfR vfN L] (fun g : {ks : List Pr // ks.Perm (keysL L)} × Option Nat × Nat => sl g.2.1 g.1.1.length g.2.2) (fun g => [cl p 74 [.map (some m)], mpP m kfR vfN L, arr g.2.1 g.2.2 2 24 ePr g.1.1]) := by
 refine Ct_body (n := 13) Try.func60 rfl rfl rfl fun F w0 Q hret hnorm hp => ?_
 change WC _ _ _ _ _ _ _ (_ :: _ :: F)
 refine WC_sr fun K1 hK1 => ?_
 refine WL_ac (Ac_box (xs := [.slice none 0 0]) rfl rfl) rfl rfl rfl ?_
 rintro _ _ ⟨b2, rfl, rfl⟩
 refine WL_r (Rd_assign (v := sl none 0 0) rfl) rfl ?_
 refine WL_end hK1 ?_
 refine WC_seq fun K2 hK2 => ?_
 refine WC_sr fun K3 hK3 => ?_
 refine WL_r (Rd_move rfl) rfl ?_
 refine WL_end hK3 ?_
 refine WC_block ?_
 refine WC_imp (fun w h => sat_nil (e := 2) (T := 24) (f := ePr) h) ?_
 rw [show cl b2 22 [.slice none 0 0] = cl b2 22 [sl none ([] : List Pr).length 0] from rfl]
 refine WC_rf (f := 57) (caps := [.pointer (some ⟨p, 0, none⟩)]) rfl cf57 fun lrf_0 Drf_0 rrf_0 hstrf_0 hpdrf_0 hparf_0 hasrf_0 hbdrf_0 hfrrf_0 => ?_
 have hyrf_0 : ∀ (dn : List Pr) (k : Pr), dn.length < 100000000 → Yd Try.prog lrf_0 [kfR k] [(fun (dn : List Pr) => exA (fun (⟨a, cap⟩ : (Option Nat) × Nat) => True) (fun (⟨a, cap⟩ : (Option Nat) × Nat) => [lp lrf_0 rrf_0, cl b2 22 [sl a dn.length cap], arr a cap 2 24 ePr dn])) dn] (fun b : Bool => .bool b) (fun b => [bif b then (fun (dn : List Pr) => exA (fun (⟨a, cap⟩ : (Option Nat) × Nat) => True) (fun (⟨a, cap⟩ : (Option Nat) × Nat) => [lp lrf_0 rrf_0, cl b2 22 [sl a dn.length cap], arr a cap 2 24 ePr dn])) (dn ++ [k]) else (exA (fun _ : Unit => False) (fun _ => []))]) := by
  intro dn k hdn
  refine Yd_ex ?_
  rintro ⟨a, cap⟩ hφ
  refine Yd_of (pre := [cl b2 22 [sl a dn.length cap], arr a cap 2 24 ePr dn]) hstrf_0 hpdrf_0 hparf_0 hasrf_0 hbdrf_0 hfrrf_0 rfl rfl fun F w0 Q K hp hend hbeg => ?_
  change WC _ _ _ _ _ _ ((7, kfR k) :: _) (_ :: _ :: _ :: F)
  dsimp only at *
  refine WC_region ?_
  refine WL_ac (Ac_alloc zr24) rfl rfl rfl ?_
  rintro _ _ ⟨b5, rfl, rfl⟩
  refine WL_ac0 (Ac_store (ys := ePr k) rfl rfl sz24 (h1 := encPr.one k) (hv := rfl) (hr := rfl)) rfl rfl ?_
  rintro _ _ rfl
  refine WL_nil ?_
  refine hbeg (by repeat (first | with_reducible exact Ext.here | with_reducible apply Ext.there)) ?_
  refine WC_block ?_
  refine WC_region ?_
  refine WL_r (Rd_load rfl tk22 (v := sl a dn.length cap)) rfl ?_
  refine WL_r (Rd_loadg (vs := ePr k) rfl tk24) rfl ?_
  refine WL_ac (Ac_bs1 (xs := ePr k) rfl ud22 zr24 sz24 (hl := rfl)) rfl rfl rfl ?_
  rintro _ _ ⟨b10, rfl, rfl⟩
  refine WL_ac (Ac_append1 (f := ePr) encPr k rfl rfl ud22 ud22 el24) rfl rfl rfl ?_
  rintro _ _ ⟨a11, cap11, rfl, rfl⟩
  refine WL_ac0 (Ac_store1 rfl rfl sz22) rfl rfl ?_
  rintro _ _ rfl
  refine WL_nil ?_
  rw [show dn.length + 1 = (dn ++ [k]).length from by rw [List.length_append]; rfl]
  refine hend.nrm true rfl (by repeat (first | with_reducible exact Ext.here | with_reducible apply Ext.there)) ?_
  try simp only [List.cons_append, List.nil_append, cond_true, cond_false]
  exact imp_ex (⟨a11, cap11⟩) (trivial) (by (try dsimp only); (try simp only [List.cons_append, List.nil_append]); repeat (first | with_reducible exact Sub.refl | with_reducible exact Sub.nil | with_reducible refine Sub.cons (by repeat (first | with_reducible exact Ext.here | with_reducible apply Ext.there)) ?_ | with_reducible refine Sub.tail ?_))
 refine ⟨_, _, _, _, _, pkIt_ct (m := m) (L := L) (X := (fun (dn : List Pr) => exA (fun (⟨a, cap⟩ : (Option Nat) × Nat) => True) (fun (⟨a, cap⟩ : (Option Nat) × Nat) => [lp lrf_0 rrf_0, cl b2 22 [sl a dn.length cap], arr a cap 2 24 ePr dn]))) (p := p) (l := lrf_0) hL (fun dn k hd => Yd_true (hyrf_0 dn k hd)), imp_rf (Y := [_, _]) (⟨none, 0⟩) (trivial) gvA (by (try dsimp only); repeat (first | with_reducible exact Gv.nil | (with_reducible apply Gv.cons; · (repeat (first | with_reducible exact Ext.here | with_reducible apply Ext.there))))), ?_⟩
 ·rintro ⟨ks, hks⟩
  ·simp only [List.cons_append, List.nil_append, cond_true, cond_false]
   refine RfEnd_ex ?_
   rintro ⟨a, cap⟩ hφ
   simp only [List.cons_append, List.nil_append]
   refine RfEnd_nrm hstrf_0 hpdrf_0 ?_
   refine Ps_next hK2 ?_
   refine WC_sr fun K4 hK4 => ?_
   refine WL_r (Rd_load rfl tk22 (v := sl a ks.length cap)) rfl ?_
   refine WL_r (Rd_assign rfl) rfl ?_
   refine WL_end hK4 ?_
   refine WC_ret ?_
   exact hret.goD (⟨ks, hks⟩, a, cap) (Rs1 rfl rfl)

theorem pkCol_ct {p m : Nat} {L : List (Pr × Int)} (hL : L.length ≤ 100000000) : Ct Try.prog 55 [.func (.func 57) #[] #[.pointer (some ⟨p, 0, none⟩)]] [cl p 74 [.map (some m)], mpP m kfR vfN L] (fun g : {ks : List Pr // ks.Perm (keysL L)} × Option Nat × Nat => sl g.2.1 g.1.1.length g.2.2) (fun g => [cl p 74 [.map (some m)], mpP m kfR vfN L, arr g.2.1 g.2.2 2 24 ePr g.1.1]) := by
 refine Ct_body (n := 5) Try.func55 rfl rfl rfl fun F w0 Q hret hnorm hp => ?_
 change WC _ _ _ _ _ _ _ (_ :: _ :: F)
 refine WC_sr fun K1 hK1 => ?_
 refine WL_r (Rd_assign (v := sl none 0 0) rfl) rfl ?_
 refine WL_end hK1 ?_
 refine WC_sr fun K2 hK2 => ?_
 refine WL_r (Rd_move rfl) rfl ?_
 refine WL_ac (Ac_call cf60 rfl (hs := pkApp_ct (p := p) (m := m) (L := L) hL)) rfl rfl rfl ?_
 rintro _ _ ⟨⟨⟨ks, hks⟩, a, cap⟩, rfl, hA⟩
 simp only [List.cons_append, List.nil_append] at hA
 replace hA := hA.symm
 subst hA
 refine WL_r (Rd_assign rfl) rfl ?_
 refine WL_end hK2 ?_
 refine WC_ret ?_
 exact hret.gf (⟨ks, hks⟩, a, cap) (Rs1 rfl rfl)

theorem pkSorted_ct {p m : Nat} {L : List (Pr × Int)} {l : List Pr} (hl : l.Pairwise prLt) (hpm : (keysL L).Perm l) (hL : L.length ≤ 100000000) : Ct Try.prog 45 [.func (.func 57) #[] #[.pointer (some ⟨p, 0, none⟩)], .func (.func 47) #[] #[]] [cl p 74 [.map (some m)], mpP m kfR vfN L] (fun g : Option Nat × Nat => sl g.1 l.length g.2) (fun g => [cl p 74 [.map (some m)], mpP m kfR vfN L, arr g.1 g.2 2 24 ePr l]) := by
 refine Ct_body (n := 12) Try.func45 rfl rfl rfl fun F w0 Q hret hnorm hp => ?_
 change WC _ _ _ _ _ _ _ (_ :: _ :: F)
 refine WC_sr fun K1 hK1 => ?_
 refine WL_r (Rd_assign (v := sl none 0 0) rfl) rfl ?_
 refine WL_end hK1 ?_
 refine WC_sr fun K2 hK2 => ?_
 refine WL_r (Rd_move rfl) rfl ?_
 refine WL_ac (Ac_call cf55 rfl (hs := pkCol_ct (p := p) (m := m) (L := L) hL)) rfl rfl rfl ?_
 rintro _ _ ⟨⟨⟨ks, hks⟩, a, cap⟩, rfl, hA⟩
 simp only [List.cons_append, List.nil_append] at hA
 replace hA := hA.symm
 subst hA
 have hkl : ks.length = l.length := (hks.trans hpm).length_eq
 have hkL : ks.length = L.length := by rw [hks.length_eq]; exact List.length_map _
 refine WL_r (Rd_assign rfl) rfl ?_
 refine WL_end hK2 ?_
 refine WC_sr fun K3 hK3 => ?_
 refine WL_r (Rd_move rfl) rfl ?_
 refine WL_r (Rd_move rfl) rfl ?_
 refine WL_ac (Ac_call cf56 rfl (hs := sortPr_ct (a := a) (cap := cap) (ks := ks) hl (hks.trans hpm) (by omega))) rfl rfl rfl ?_
 rintro _ _ ⟨⟨⟩, rfl, hA⟩
 simp only [List.cons_append, List.nil_append] at hA
 replace hA := hA.symm
 subst hA
 refine WL_end hK3 ?_
 refine WC_sr fun K4 hK4 => ?_
 refine WL_r (Rd_move rfl) rfl ?_
 refine WL_r (Rd_assign rfl) rfl ?_
 refine WL_end hK4 ?_
 refine WC_ret ?_
 exact hret.gfE (a, cap) (Rs1 rfl rfl) (by rw [hkl])
end Go.Proofs.Ytilmiikfjcdllaa
namespace Go.Proofs.Ytilmiikfjcdllaa
open Go.RowKit Go.SL Go.ShM Go.HyM Go.Fl Go.SvM
set_option maxHeartbeats 1000000
set_option maxRecDepth 20000
set_option linter.all false
theorem cf45 : cfn Try.prog 45 = true := by kernel_rfl
theorem cf46 : cfn Try.prog 46 = true := by kernel_rfl
theorem look_ok {X : Asn} {v : Value} {ps : List Pr} {ao : Option Addr} {cap : Nat} (hS : Sv [X] v 2 ePr ps ao cap) (hn : ps.length ≤ 100000000) (hm : mayP ps) : Ct Try.prog 28 [v] [X] (fun g : Option Nat × Nat => .tuple #[sl g.1 (lookP ps).length g.2, .int .i64 0]) (fun g => [X, arr g.1 g.2 2 24 ePr (lookP ps)]) := by
 refine Ct_body (n := 45) Try.func28 rfl rfl rfl fun F w0 Q hret hnorm hp => ?_
 change WC _ _ _ _ _ _ _ (_ :: F)
 refine WC_sr fun K1 hK1 => ?_
 refine WL_r (Rd_assign (v := sl none 0 0) rfl) rfl ?_
 refine WL_r (Rd_assign rfl) rfl ?_
 refine WL_end hK1 ?_
 refine WC_seq fun K2 hK2 => ?_
 refine WC_sr fun K3 hK3 => ?_
 refine WL_r (Rd_move rfl) rfl ?_
 refine WL_r (Rd_len_sv rfl rfl ud22) rfl ?_
 refine WL_r (Rd_gtrN (j := 8192) rfl rfl) rfl ?_
 refine WL_end hK3 ?_
 refine WC_cond rfl (fun hc0 => ?_) (fun hc0 => ?_)
 ·try simp only [dz, ne_eq] at hc0
  exact absurd hm.1 (by omega)
 ·try simp only [dz, ne_eq] at hc0
  refine WC_skip ?_
  refine Ps_next hK2 ?_
  refine WC_sr fun K4 hK4 => ?_
  refine WL_ac (Ac_makeP kfR vfN) rfl rfl rfl ?_
  rintro _ _ ⟨m10, rfl, rfl⟩
  refine WL_r (Rd_assign rfl) rfl ?_
  refine WL_end hK4 ?_
  refine WC_seq fun K5 hK5 => ?_
  refine WC_sr fun K6 hK6 => ?_
  refine WL_r (Rd_move rfl) rfl ?_
  refine WL_r (Rd_len_sv rfl rfl ud22) rfl ?_
  refine WL_r (Rd_move rfl) rfl ?_
  refine WL_end hK6 ?_
  refine WC_block ?_
  refine WC_loopK (σ := Nat × (List (Pr × Int))) (fun ⟨i, L⟩ => [(13, .int .i64 ((i : Nat) : Int))]) (fun ⟨i, L⟩ => [mpP m10 kfR vfN L]) (fun ⟨i, L⟩ => i ≤ ps.length ∧ (∀ q ∈ ps.take i, pOk q) ∧ (∀ q, q ∈ keysL L ↔ q ∈ ps.take i)) (fun ⟨i, L⟩ => ps.length - i) ⟨0, []⟩ [4, 11, 12, 42, 43, 44] kpA (by (try dsimp only); repeat (first | with_reducible exact Gv.nil | (with_reducible apply Gv.cons; · (repeat (first | with_reducible exact Ext.here | with_reducible apply Ext.there))))) ?_ ?_ Sub.refl ?_
  ·exact ⟨Nat.zero_le _, fun q h => by simp at h, fun q => by simp [keysL]⟩
  ·(try dsimp only); exact (Wk.cons lkA Wk.nil)
  ·rintro ⟨i, L⟩ ⟨hi, hall, hkey⟩ K7 hK7
   simp only [List.cons_append, List.nil_append]
   refine WC_sr fun K8 hK8 => ?_
   refine WL_r (Rd_lssN rfl rfl) rfl ?_
   refine WL_end hK8 ?_
   refine WC_seq fun K9 hK9 => ?_
   refine WC_cond rfl (fun hc1 => ?_) (fun hc1 => ?_)
   ·try simp only [dz, ne_eq] at hc1
    obtain ⟨p, hp0⟩ : ∃ p, ps[i]? = some p := ⟨_, List.getElem?_eq_getElem (by omega)⟩
    have hpm := List.mem_of_getElem? hp0
    refine WC_skip ?_
    refine Ps_next hK9 ?_
    refine WC_seq fun K10 hK10 => ?_
    refine WC_block ?_
    refine WC_sr fun K11 hK11 => ?_
    refine WL_r (Rd_index_sv i rfl rfl ud22 sz24 (hA := hS) (hi := by omega)) rfl ?_
    refine WL_r (Rd_loadg_sv (f := ePr) (i := i) (y := p) rfl tk24 (hA := hS) (hl := hp0)) rfl ?_
    refine WL_ac (Ac_alloc zr24) rfl rfl rfl ?_
    rintro _ _ ⟨b6, rfl, rfl⟩
    refine WL_ac0 (Ac_store (ys := ePr p) rfl rfl sz24 (h1 := encPr.one p) (hv := rfl) (hr := rfl)) rfl rfl ?_
    rintro _ _ rfl
    refine WL_end hK11 ?_
    refine WC_seq fun K12 hK12 => ?_
    refine WC_sr fun K13 hK13 => ?_
    refine WL_r (Rd_fieldAddr rfl fo24_0) rfl ?_
    refine WL_r (Rd_load rfl tk3 (v := .int .i64 p.1)) rfl ?_
    refine WL_r (Rd_lss rfl rfl) rfl ?_
    refine WL_r (Rd_move rfl) rfl ?_
    refine WL_bool 20 rfl (fun hg14 => ?_) (fun hg14 => ?_)
    ·try simp only [dz, ne_eq] at hg14
     refine WL_skip rfl rfl rfl ?_
     refine WL_skip rfl rfl rfl ?_
     refine WL_skip rfl rfl rfl ?_
     refine WL_r (Rd_pickT rfl rfl) rfl ?_
     refine WL_r (Rd_move rfl) rfl ?_
     refine WL_skip rfl rfl rfl ?_
     refine WL_skip rfl rfl rfl ?_
     refine WL_skip rfl rfl rfl ?_
     refine WL_r (Rd_pickT rfl rfl) rfl ?_
     refine WL_r (Rd_move rfl) rfl ?_
     refine WL_skip rfl rfl rfl ?_
     refine WL_skip rfl rfl rfl ?_
     refine WL_skip rfl rfl rfl ?_
     refine WL_r (Rd_pickT rfl rfl) rfl ?_
     refine WL_end hK13 ?_
     refine WC_condT rfl ?_
     exact absurd (hm.2 p hpm) (by unfold pOk; omega)
    ·try simp only [dz, ne_eq] at hg14
     refine WL_r (Rd_fieldAddr rfl fo24_0) rfl ?_
     refine WL_r (Rd_load rfl tk3 (v := .int .i64 p.1)) rfl ?_
     refine WL_r (Rd_geq rfl rfl) rfl ?_
     refine WL_r (Rd_pickF rfl rfl) rfl ?_
     refine WL_r (Rd_move rfl) rfl ?_
     refine WL_bool 25 rfl (fun hg15 => ?_) (fun hg15 => ?_)
     ·try simp only [dz, ne_eq] at hg15
      refine WL_skip rfl rfl rfl ?_
      refine WL_skip rfl rfl rfl ?_
      refine WL_skip rfl rfl rfl ?_
      refine WL_r (Rd_pickT rfl rfl) rfl ?_
      refine WL_r (Rd_move rfl) rfl ?_
      refine WL_skip rfl rfl rfl ?_
      refine WL_skip rfl rfl rfl ?_
      refine WL_skip rfl rfl rfl ?_
      refine WL_r (Rd_pickT rfl rfl) rfl ?_
      refine WL_end hK13 ?_
      refine WC_condT rfl ?_
      exact absurd (hm.2 p hpm) (by unfold pOk; omega)
     ·try simp only [dz, ne_eq] at hg15
      refine WL_r (Rd_fieldAddr rfl fo24_1) rfl ?_
      refine WL_r (Rd_load rfl tk3 (v := .int .i64 p.2)) rfl ?_
      refine WL_r (Rd_lss rfl rfl) rfl ?_
      refine WL_r (Rd_pickF rfl rfl) rfl ?_
      refine WL_r (Rd_move rfl) rfl ?_
      refine WL_bool 30 rfl (fun hg16 => ?_) (fun hg16 => ?_)
      ·try simp only [dz, ne_eq] at hg16
       refine WL_skip rfl rfl rfl ?_
       refine WL_skip rfl rfl rfl ?_
       refine WL_skip rfl rfl rfl ?_
       refine WL_r (Rd_pickT rfl rfl) rfl ?_
       refine WL_end hK13 ?_
       refine WC_condT rfl ?_
       exact absurd (hm.2 p hpm) (by unfold pOk; omega)
      ·try simp only [dz, ne_eq] at hg16
       refine WL_r (Rd_fieldAddr rfl fo24_1) rfl ?_
       refine WL_r (Rd_load rfl tk3 (v := .int .i64 p.2)) rfl ?_
       refine WL_r (Rd_geq rfl rfl) rfl ?_
       refine WL_r (Rd_pickF rfl rfl) rfl ?_
       refine WL_end hK13 ?_
       refine WC_cond rfl (fun hc2 => ?_) (fun hc2 => ?_)
       ·try simp only [dz, ne_eq] at hc2
        exact absurd (hm.2 p hpm) (by unfold pOk; omega)
       ·try simp only [dz, ne_eq] at hc2
        have hpo : pOk p := by unfold pOk; omega
        refine WC_skip ?_
        refine Ps_next hK12 ?_
        refine WC_draw mix [cl b6 24 (ePr p)] (fun i => ([2, 2, 2, 2, 0, 2, 0] : List Nat).getD i 0) ?_
        refine WJ_tp 0 rfl (Rd_move rfl) rfl (hp _ _) ?_
        refine WJ_tk 1 (Rd_loadg (vs := ePr p) rfl tk24) hp ?_ rfl (by kernel_rfl) rfl rfl rfl
        refine WJ_all (rs := [2, 4]) (by kernel_rfl) rfl ?_
        refine WI_cons ?_ (WI_cons ?_ (by intro _ h; cases h))
        ·skip
         refine WI_rd rfl (Rd_valE (v := .int .i64 ((getL p L).getD 0)) (Rd_lookP1 (kf := kfR) (vf := vfN) (l := L) keyR rfl rfl ud74 zvN) (look_g)) rfl rfl rfl (fun h => by cases h) ?_
         refine WJ_tp 3 rfl (Rd_add rfl rfl) rfl (hp _ _) ?_
         refine WJ_all (rs := [4]) (by kernel_rfl) rfl ?_
         refine WI_one ?_
         refine WI_ac rfl (Ac_entryP (kf := kfR) (vf := vfN) 0 rfl keyR rfl rfl ud74 zvN) rfl rfl rfl rfl ?_
         rintro _ _ ⟨s39, rfl, rfl⟩
         refine ⟨(fun h => by cases h), ?_⟩
         refine WJ_tp 5 rfl (Rd_ext1 rfl) rfl (hp _ _) ?_
         refine WJ_all (rs := [6]) (by kernel_rfl) rfl ?_
         refine WI_one ?_
         refine WI_ac0 rfl (Ac_storeP (kf := kfR) (vf := vfN) (IntKind.i64.wrap ((getL p L).getD 0 + 1)) kfR_inj rfl rfl rfl) rfl rfl rfl ?_
         rintro _ _ rfl
         refine ⟨(fun h => by cases h), ?_⟩
         refine WJ_done (by kernel_rfl) ?_
         refine Ps_next hK10 ?_
         refine WC_region ?_
         refine WL_r (Rd_addN (j := 1) rfl rfl) rfl ?_
         refine WL_r (Rd_move rfl) rfl ?_
         refine WL_nil ?_
         refine Ps_wkB (hK7 ⟨i + 1, putL p (IntKind.i64.wrap ((getL p L).getD 0 + 1)) (putL p ((getL p L).getD 0) L)⟩ (⟨by (try dsimp only); omega, all_takeP hp0 hall hpo, keys_step hp0 hkey⟩) (by (try dsimp only); omega))
        ·skip
         refine WI_ac rfl (Ac_entryP (kf := kfR) (vf := vfN) 0 rfl keyR rfl rfl ud74 zvN) rfl rfl rfl rfl ?_
         rintro _ _ ⟨s39, rfl, rfl⟩
         refine ⟨(fun h => by cases h), ?_⟩
         refine WJ_tp 5 rfl (Rd_ext1 rfl) rfl (hp _ _) ?_
         refine WJ_all (rs := [2]) (by kernel_rfl) rfl ?_
         refine WI_one ?_
         refine WI_rd rfl (Rd_valE (v := .int .i64 ((getL p L).getD 0)) (Rd_lookEP (kf := kfR) (vf := vfN) (l := putL p ((getL p L).getD 0) L) keyR rfl rfl ud74 zvN) (look_gE)) rfl rfl rfl (fun h => by cases h) ?_
         refine WJ_tp 3 rfl (Rd_add rfl rfl) rfl (hp _ _) ?_
         refine WJ_all (rs := [6]) (by kernel_rfl) rfl ?_
         refine WI_one ?_
         refine WI_ac0 rfl (Ac_storeP (kf := kfR) (vf := vfN) (IntKind.i64.wrap ((getL p L).getD 0 + 1)) kfR_inj rfl rfl rfl) rfl rfl rfl ?_
         rintro _ _ rfl
         refine ⟨(fun h => by cases h), ?_⟩
         refine WJ_done (by kernel_rfl) ?_
         refine Ps_next hK10 ?_
         refine WC_region ?_
         refine WL_r (Rd_addN (j := 1) rfl rfl) rfl ?_
         refine WL_r (Rd_move rfl) rfl ?_
         refine WL_nil ?_
         refine Ps_wkB (hK7 ⟨i + 1, putL p (IntKind.i64.wrap ((getL p L).getD 0 + 1)) (putL p ((getL p L).getD 0) L)⟩ (⟨by (try dsimp only); omega, all_takeP hp0 hall hpo, keys_step hp0 hkey⟩) (by (try dsimp only); omega))
   ·try simp only [dz, ne_eq] at hc1
    obtain rfl : i = ps.length := by omega
    rw [List.take_length] at hall hkey
    refine WC_fact (fun w h => mpP_nd (m := m10) (kf := kfR) (vf := vfN) (l := L) hasA h) (fun hnd => ?_)
    have hpp := lookP_perm hall hnd hkey
    have hLl : L.length ≤ 8160 := by have q := hpp.length_eq; rw [show (keysL L).length = L.length from List.length_map _] at q; have := lookP_len ps; omega
    refine WC_exit ?_
    refine Ps_next hK5 ?_
    refine WC_sr fun K17 hK17 => ?_
    refine WL_r (Rd_move rfl) rfl ?_
    refine WL_ac (Ac_call cf46 rfl (hs := pk_ct (m := m10))) rfl rfl rfl ?_
    rintro _ _ ⟨p43, rfl, hA⟩
    simp only [List.cons_append, List.nil_append] at hA
    replace hA := hA.symm
    subst hA
    refine WL_ac (Ac_call cf45 rfl (hs := pkSorted_ct (p := p43) (m := m10) (L := L) (l := lookP ps) (lookP_pw ps) hpp (by omega))) rfl rfl rfl ?_
    rintro _ _ ⟨⟨a, cap'⟩, rfl, hA⟩
    simp only [List.cons_append, List.nil_append] at hA
    replace hA := hA.symm
    subst hA
    refine WL_r (Rd_assign rfl) rfl ?_
    refine WL_r (Rd_assign rfl) rfl ?_
    refine WL_end hK17 ?_
    refine WC_ret ?_
    exact hret.gf (a, cap') (Rs2 rfl rfl rfl)

theorem look_no {X : Asn} {v : Value} {ps : List Pr} {ao : Option Addr} {cap : Nat} (hS : Sv [X] v 2 ePr ps ao cap) (hn : ps.length ≤ 100000000) (hm : ¬ mayP ps) : Ct Try.prog 28 [v] [X] (fun _ : Unit => .tuple #[sl none 0 0, .int .i64 230]) (fun _ => [X]) := by
 refine Ct_body (n := 45) Try.func28 rfl rfl rfl fun F w0 Q hret hnorm hp => ?_
 change WC _ _ _ _ _ _ _ (_ :: F)
 refine WC_sr fun K1 hK1 => ?_
 refine WL_r (Rd_assign (v := sl none 0 0) rfl) rfl ?_
 refine WL_r (Rd_assign rfl) rfl ?_
 refine WL_end hK1 ?_
 refine WC_seq fun K2 hK2 => ?_
 refine WC_sr fun K3 hK3 => ?_
 refine WL_r (Rd_move rfl) rfl ?_
 refine WL_r (Rd_len_sv rfl rfl ud22) rfl ?_
 refine WL_r (Rd_gtrN (j := 8192) rfl rfl) rfl ?_
 refine WL_end hK3 ?_
 refine WC_cond rfl (fun hc0 => ?_) (fun hc0 => ?_)
 ·try simp only [dz, ne_eq] at hc0
  refine WC_sr fun K4 hK4 => ?_
  refine WL_r (Rd_assign (v := sl none 0 0) rfl) rfl ?_
  refine WL_r (Rd_assign rfl) rfl ?_
  refine WL_end hK4 ?_
  refine WC_ret ?_
  exact hret.gf () (Rs2 rfl rfl rfl)
 ·try simp only [dz, ne_eq] at hc0
  refine WC_skip ?_
  refine Ps_next hK2 ?_
  refine WC_sr fun K5 hK5 => ?_
  refine WL_ac (Ac_makeP kfR vfN) rfl rfl rfl ?_
  rintro _ _ ⟨m10, rfl, rfl⟩
  refine WL_r (Rd_assign rfl) rfl ?_
  refine WL_end hK5 ?_
  refine WC_seq fun K6 hK6 => ?_
  refine WC_sr fun K7 hK7 => ?_
  refine WL_r (Rd_move rfl) rfl ?_
  refine WL_r (Rd_len_sv rfl rfl ud22) rfl ?_
  refine WL_r (Rd_move rfl) rfl ?_
  refine WL_end hK7 ?_
  refine WC_block ?_
  refine WC_loopK (σ := Nat × (List (Pr × Int))) (fun ⟨i, L⟩ => [(13, .int .i64 ((i : Nat) : Int))]) (fun ⟨i, L⟩ => [mpP m10 kfR vfN L]) (fun ⟨i, L⟩ => i ≤ ps.length ∧ (∀ q ∈ ps.take i, pOk q) ∧ (∀ q, q ∈ keysL L ↔ q ∈ ps.take i)) (fun ⟨i, L⟩ => ps.length - i) ⟨0, []⟩ [4, 11, 12, 42, 43, 44] kpA (by (try dsimp only); repeat (first | with_reducible exact Gv.nil | (with_reducible apply Gv.cons; · (repeat (first | with_reducible exact Ext.here | with_reducible apply Ext.there))))) ?_ ?_ Sub.refl ?_
  ·exact ⟨Nat.zero_le _, fun q h => by simp at h, fun q => by simp [keysL]⟩
  ·(try dsimp only); exact (Wk.cons lkA Wk.nil)
  ·rintro ⟨i, L⟩ ⟨hi, hall, hkey⟩ K8 hK8
   simp only [List.cons_append, List.nil_append]
   refine WC_sr fun K9 hK9 => ?_
   refine WL_r (Rd_lssN rfl rfl) rfl ?_
   refine WL_end hK9 ?_
   refine WC_seq fun K10 hK10 => ?_
   refine WC_cond rfl (fun hc1 => ?_) (fun hc1 => ?_)
   ·try simp only [dz, ne_eq] at hc1
    obtain ⟨p, hp0⟩ : ∃ p, ps[i]? = some p := ⟨_, List.getElem?_eq_getElem (by omega)⟩
    have hpm := List.mem_of_getElem? hp0
    refine WC_skip ?_
    refine Ps_next hK10 ?_
    refine WC_seq fun K11 hK11 => ?_
    refine WC_block ?_
    refine WC_sr fun K12 hK12 => ?_
    refine WL_r (Rd_index_sv i rfl rfl ud22 sz24 (hA := hS) (hi := by omega)) rfl ?_
    refine WL_r (Rd_loadg_sv (f := ePr) (i := i) (y := p) rfl tk24 (hA := hS) (hl := hp0)) rfl ?_
    refine WL_ac (Ac_alloc zr24) rfl rfl rfl ?_
    rintro _ _ ⟨b6, rfl, rfl⟩
    refine WL_ac0 (Ac_store (ys := ePr p) rfl rfl sz24 (h1 := encPr.one p) (hv := rfl) (hr := rfl)) rfl rfl ?_
    rintro _ _ rfl
    refine WL_end hK12 ?_
    refine WC_seq fun K13 hK13 => ?_
    refine WC_sr fun K14 hK14 => ?_
    refine WL_r (Rd_fieldAddr rfl fo24_0) rfl ?_
    refine WL_r (Rd_load rfl tk3 (v := .int .i64 p.1)) rfl ?_
    refine WL_r (Rd_lss rfl rfl) rfl ?_
    refine WL_r (Rd_move rfl) rfl ?_
    refine WL_bool 20 rfl (fun hg15 => ?_) (fun hg15 => ?_)
    ·try simp only [dz, ne_eq] at hg15
     refine WL_skip rfl rfl rfl ?_
     refine WL_skip rfl rfl rfl ?_
     refine WL_skip rfl rfl rfl ?_
     refine WL_r (Rd_pickT rfl rfl) rfl ?_
     refine WL_r (Rd_move rfl) rfl ?_
     refine WL_skip rfl rfl rfl ?_
     refine WL_skip rfl rfl rfl ?_
     refine WL_skip rfl rfl rfl ?_
     refine WL_r (Rd_pickT rfl rfl) rfl ?_
     refine WL_r (Rd_move rfl) rfl ?_
     refine WL_skip rfl rfl rfl ?_
     refine WL_skip rfl rfl rfl ?_
     refine WL_skip rfl rfl rfl ?_
     refine WL_r (Rd_pickT rfl rfl) rfl ?_
     refine WL_end hK14 ?_
     refine WC_condT rfl ?_
     refine WC_sr fun K16 hK16 => ?_
     refine WL_r (Rd_assign (v := sl none 0 0) rfl) rfl ?_
     refine WL_r (Rd_assign rfl) rfl ?_
     refine WL_end hK16 ?_
     refine WC_ret ?_
     exact hret.gf () (Rs2 rfl rfl rfl)
    ·try simp only [dz, ne_eq] at hg15
     refine WL_r (Rd_fieldAddr rfl fo24_0) rfl ?_
     refine WL_r (Rd_load rfl tk3 (v := .int .i64 p.1)) rfl ?_
     refine WL_r (Rd_geq rfl rfl) rfl ?_
     refine WL_r (Rd_pickF rfl rfl) rfl ?_
     refine WL_r (Rd_move rfl) rfl ?_
     refine WL_bool 25 rfl (fun hg17 => ?_) (fun hg17 => ?_)
     ·try simp only [dz, ne_eq] at hg17
      refine WL_skip rfl rfl rfl ?_
      refine WL_skip rfl rfl rfl ?_
      refine WL_skip rfl rfl rfl ?_
      refine WL_r (Rd_pickT rfl rfl) rfl ?_
      refine WL_r (Rd_move rfl) rfl ?_
      refine WL_skip rfl rfl rfl ?_
      refine WL_skip rfl rfl rfl ?_
      refine WL_skip rfl rfl rfl ?_
      refine WL_r (Rd_pickT rfl rfl) rfl ?_
      refine WL_end hK14 ?_
      refine WC_condT rfl ?_
      refine WC_sr fun K18 hK18 => ?_
      refine WL_r (Rd_assign (v := sl none 0 0) rfl) rfl ?_
      refine WL_r (Rd_assign rfl) rfl ?_
      refine WL_end hK18 ?_
      refine WC_ret ?_
      exact hret.gf () (Rs2 rfl rfl rfl)
     ·try simp only [dz, ne_eq] at hg17
      refine WL_r (Rd_fieldAddr rfl fo24_1) rfl ?_
      refine WL_r (Rd_load rfl tk3 (v := .int .i64 p.2)) rfl ?_
      refine WL_r (Rd_lss rfl rfl) rfl ?_
      refine WL_r (Rd_pickF rfl rfl) rfl ?_
      refine WL_r (Rd_move rfl) rfl ?_
      refine WL_bool 30 rfl (fun hg19 => ?_) (fun hg19 => ?_)
      ·try simp only [dz, ne_eq] at hg19
       refine WL_skip rfl rfl rfl ?_
       refine WL_skip rfl rfl rfl ?_
       refine WL_skip rfl rfl rfl ?_
       refine WL_r (Rd_pickT rfl rfl) rfl ?_
       refine WL_end hK14 ?_
       refine WC_condT rfl ?_
       refine WC_sr fun K20 hK20 => ?_
       refine WL_r (Rd_assign (v := sl none 0 0) rfl) rfl ?_
       refine WL_r (Rd_assign rfl) rfl ?_
       refine WL_end hK20 ?_
       refine WC_ret ?_
       exact hret.gf () (Rs2 rfl rfl rfl)
      ·try simp only [dz, ne_eq] at hg19
       refine WL_r (Rd_fieldAddr rfl fo24_1) rfl ?_
       refine WL_r (Rd_load rfl tk3 (v := .int .i64 p.2)) rfl ?_
       refine WL_r (Rd_geq rfl rfl) rfl ?_
       refine WL_r (Rd_pickF rfl rfl) rfl ?_
       refine WL_end hK14 ?_
       refine WC_cond rfl (fun hc2 => ?_) (fun hc2 => ?_)
       ·try simp only [dz, ne_eq] at hc2
        refine WC_sr fun K21 hK21 => ?_
        refine WL_r (Rd_assign (v := sl none 0 0) rfl) rfl ?_
        refine WL_r (Rd_assign rfl) rfl ?_
        refine WL_end hK21 ?_
        refine WC_ret ?_
        exact hret.gf () (Rs2 rfl rfl rfl)
       ·try simp only [dz, ne_eq] at hc2
        have hpo : pOk p := by unfold pOk; omega
        refine WC_skip ?_
        refine Ps_next hK13 ?_
        refine WC_draw mix [cl b6 24 (ePr p)] (fun i => ([2, 2, 2, 2, 0, 2, 0] : List Nat).getD i 0) ?_
        refine WJ_tp 0 rfl (Rd_move rfl) rfl (hp _ _) ?_
        refine WJ_tk 1 (Rd_loadg (vs := ePr p) rfl tk24) hp ?_ rfl (by kernel_rfl) rfl rfl rfl
        refine WJ_all (rs := [2, 4]) (by kernel_rfl) rfl ?_
        refine WI_cons ?_ (WI_cons ?_ (by intro _ h; cases h))
        ·skip
         refine WI_rd rfl (Rd_valE (v := .int .i64 ((getL p L).getD 0)) (Rd_lookP1 (kf := kfR) (vf := vfN) (l := L) keyR rfl rfl ud74 zvN) (look_g)) rfl rfl rfl (fun h => by cases h) ?_
         refine WJ_tp 3 rfl (Rd_add rfl rfl) rfl (hp _ _) ?_
         refine WJ_all (rs := [4]) (by kernel_rfl) rfl ?_
         refine WI_one ?_
         refine WI_ac rfl (Ac_entryP (kf := kfR) (vf := vfN) 0 rfl keyR rfl rfl ud74 zvN) rfl rfl rfl rfl ?_
         rintro _ _ ⟨s39, rfl, rfl⟩
         refine ⟨(fun h => by cases h), ?_⟩
         refine WJ_tp 5 rfl (Rd_ext1 rfl) rfl (hp _ _) ?_
         refine WJ_all (rs := [6]) (by kernel_rfl) rfl ?_
         refine WI_one ?_
         refine WI_ac0 rfl (Ac_storeP (kf := kfR) (vf := vfN) (IntKind.i64.wrap ((getL p L).getD 0 + 1)) kfR_inj rfl rfl rfl) rfl rfl rfl ?_
         rintro _ _ rfl
         refine ⟨(fun h => by cases h), ?_⟩
         refine WJ_done (by kernel_rfl) ?_
         refine Ps_next hK11 ?_
         refine WC_region ?_
         refine WL_r (Rd_addN (j := 1) rfl rfl) rfl ?_
         refine WL_r (Rd_move rfl) rfl ?_
         refine WL_nil ?_
         refine Ps_wkB (hK8 ⟨i + 1, putL p (IntKind.i64.wrap ((getL p L).getD 0 + 1)) (putL p ((getL p L).getD 0) L)⟩ (⟨by (try dsimp only); omega, all_takeP hp0 hall hpo, keys_step hp0 hkey⟩) (by (try dsimp only); omega))
        ·skip
         refine WI_ac rfl (Ac_entryP (kf := kfR) (vf := vfN) 0 rfl keyR rfl rfl ud74 zvN) rfl rfl rfl rfl ?_
         rintro _ _ ⟨s39, rfl, rfl⟩
         refine ⟨(fun h => by cases h), ?_⟩
         refine WJ_tp 5 rfl (Rd_ext1 rfl) rfl (hp _ _) ?_
         refine WJ_all (rs := [2]) (by kernel_rfl) rfl ?_
         refine WI_one ?_
         refine WI_rd rfl (Rd_valE (v := .int .i64 ((getL p L).getD 0)) (Rd_lookEP (kf := kfR) (vf := vfN) (l := putL p ((getL p L).getD 0) L) keyR rfl rfl ud74 zvN) (look_gE)) rfl rfl rfl (fun h => by cases h) ?_
         refine WJ_tp 3 rfl (Rd_add rfl rfl) rfl (hp _ _) ?_
         refine WJ_all (rs := [6]) (by kernel_rfl) rfl ?_
         refine WI_one ?_
         refine WI_ac0 rfl (Ac_storeP (kf := kfR) (vf := vfN) (IntKind.i64.wrap ((getL p L).getD 0 + 1)) kfR_inj rfl rfl rfl) rfl rfl rfl ?_
         rintro _ _ rfl
         refine ⟨(fun h => by cases h), ?_⟩
         refine WJ_done (by kernel_rfl) ?_
         refine Ps_next hK11 ?_
         refine WC_region ?_
         refine WL_r (Rd_addN (j := 1) rfl rfl) rfl ?_
         refine WL_r (Rd_move rfl) rfl ?_
         refine WL_nil ?_
         refine Ps_wkB (hK8 ⟨i + 1, putL p (IntKind.i64.wrap ((getL p L).getD 0 + 1)) (putL p ((getL p L).getD 0) L)⟩ (⟨by (try dsimp only); omega, all_takeP hp0 hall hpo, keys_step hp0 hkey⟩) (by (try dsimp only); omega))
   ·try simp only [dz, ne_eq] at hc1
    obtain rfl : i = ps.length := by omega
    rw [List.take_length] at hall
    exact absurd ⟨by omega, hall⟩ hm
end Go.Proofs.Ytilmiikfjcdllaa
namespace Go.Proofs.Ytilmiikfjcdllaa
open Go.RowKit Go.SL Go.ShM Go.HyM Go.Fl Go.SvM
set_option maxHeartbeats 1000000
set_option maxRecDepth 20000
set_option linter.all false
theorem ud58 : Try.prog.underlying 58 = some (.map 3 3) := by kernel_rfl
theorem cnt_end {l : List Pr} {f : Pr → Int} {L : List (Int × Int)} (hnd : (keysL L).Nodup) (hk : ∀ v, v ∈ keysL L ↔ ∃ p ∈ l, f p = v) (hf : ∀ p ∈ l, 0 ≤ f p ∧ f p < 255) : Value.int .i64 ((L.length : Nat) : Int) = Value.int .i64 (((cntM l f) : Nat) : Int) := by
  have h := cnt_len hnd hk hf
  rw [show (keysL L).length = L.length from List.length_map _] at h
  rw [h]
theorem kstep {l : List Pr} {f : Pr → Int} {i : Nat} {p : Pr} {x : Int} {L : List (Int × Int)} (h : l[i]? = some p) (h0 : ∀ v, v ∈ keysL L ↔ ∃ q ∈ l.take i, f q = v) : ∀ v, v ∈ keysL (putL (f p) x L) ↔ ∃ q ∈ l.take (i + 1), f q = v := fun v => by
  rw [keys_putL, h0, List.take_add_one, h]
  simp only [Option.toList_some, List.mem_append, List.mem_singleton]
  constructor
  · rintro (e | ⟨q, h1, h2⟩)
    · exact ⟨p, .inr rfl, e.symm⟩
    · exact ⟨q, .inl h1, h2⟩
  · rintro ⟨q, h1 | h1, h2⟩
    · exact .inr ⟨q, h1, h2⟩
    · subst h1; exact .inl h2.symm

theorem numbers_ct {X : Asn} {v : Value} {l : List Pr} {ao : Option Addr} {cap g : Nat} {f : Pr → Int} (hS : Sv [X] v 2 ePr l ao cap) (hn : l.length ≤ 100000000) (hg : cfn Try.prog g = true) (hh : ∀ p : Pr, Ct Try.prog g [.agg (ePr p).toArray] [] (fun _ : Unit => .int .i64 (f p)) (fun _ => [])) (hf : ∀ p ∈ l, 0 ≤ f p ∧ f p < 255) : Ct Try.prog 29 [v, (.func (.func g) #[] #[])] [X] (fun _ : Unit => .int .i64 (((cntM l f) : Nat) : Int)) (fun _ => [X]) := by
 refine Ct_body (n := 24) Try.func29 rfl rfl rfl fun F w0 Q hret hnorm hp => ?_
 change WC _ _ _ _ _ _ _ (_ :: F)
 refine WC_sr fun K1 hK1 => ?_
 refine WL_r (Rd_assign rfl) rfl ?_
 refine WL_end hK1 ?_
 refine WC_sr fun K2 hK2 => ?_
 refine WL_ac (Ac_makeP kfN vfN) rfl rfl rfl ?_
 rintro _ _ ⟨m8, rfl, rfl⟩
 refine WL_r (Rd_assign rfl) rfl ?_
 refine WL_end hK2 ?_
 refine WC_seq fun K3 hK3 => ?_
 refine WC_sr fun K4 hK4 => ?_
 refine WL_r (Rd_move rfl) rfl ?_
 refine WL_r (Rd_len_sv rfl rfl ud22) rfl ?_
 refine WL_r (Rd_move rfl) rfl ?_
 refine WL_end hK4 ?_
 refine WC_block ?_
 refine WC_loopK (σ := Nat × (List (Int × Int))) (fun ⟨i, L⟩ => [(11, .int .i64 ((i : Nat) : Int))]) (fun ⟨i, L⟩ => [mpP m8 kfN vfN L]) (fun ⟨i, L⟩ => i ≤ l.length ∧ (∀ v, v ∈ keysL L ↔ ∃ q ∈ l.take i, f q = v)) (fun ⟨i, L⟩ => l.length - i) ⟨0, []⟩ [1, 4, 5, 9, 10, 22, 23] kpA (by (try dsimp only); repeat (first | with_reducible exact Gv.nil | (with_reducible apply Gv.cons; · (repeat (first | with_reducible exact Ext.here | with_reducible apply Ext.there))))) ?_ ?_ Sub.refl ?_
 ·exact ⟨Nat.zero_le _, fun v => by simp [keysL]⟩
 ·(try dsimp only); exact (Wk.cons lkA Wk.nil)
 ·rintro ⟨i, L⟩ ⟨hi, hkey⟩ K5 hK5
  simp only [List.cons_append, List.nil_append]
  refine WC_sr fun K6 hK6 => ?_
  refine WL_r (Rd_lssN rfl rfl) rfl ?_
  refine WL_end hK6 ?_
  refine WC_seq fun K7 hK7 => ?_
  refine WC_cond rfl (fun hc0 => ?_) (fun hc0 => ?_)
  ·try simp only [dz, ne_eq] at hc0
   obtain ⟨p, hp0⟩ : ∃ p, l[i]? = some p := ⟨_, List.getElem?_eq_getElem (by omega)⟩
   refine WC_skip ?_
   refine Ps_next hK7 ?_
   refine WC_seq fun K8 hK8 => ?_
   refine WC_block ?_
   refine WC_sr fun K9 hK9 => ?_
   refine WL_r (Rd_index_sv i rfl rfl ud22 sz24 (hA := hS) (hi := by omega)) rfl ?_
   refine WL_r (Rd_loadg_sv (f := ePr) (i := i) (y := p) rfl tk24 (hA := hS) (hl := hp0)) rfl ?_
   refine WL_ac (Ac_alloc zr24) rfl rfl rfl ?_
   rintro _ _ ⟨b7, rfl, rfl⟩
   refine WL_ac0 (Ac_store (ys := ePr p) rfl rfl sz24 (h1 := encPr.one p) (hv := rfl) (hr := rfl)) rfl rfl ?_
   rintro _ _ rfl
   refine WL_end hK9 ?_
   refine WC_region ?_
   refine WL_r (Rd_move rfl) rfl ?_
   refine WL_r (Rd_move rfl) rfl ?_
   refine WL_r (Rd_loadg (vs := ePr p) rfl tk24) rfl ?_
   refine WL_ac (Ac_callv rfl hg rfl rfl rfl rfl (hs := hh p)) rfl rfl rfl ?_
   rintro _ _ ⟨⟨⟩, rfl, hA⟩
   simp only [List.cons_append, List.nil_append] at hA
   replace hA := hA.symm
   subst hA
   refine WL_r (Rd_valE (v := .int .i64 (at0 (f p) L)) (Rd_lookP1 (kf := kfN) (vf := vfN) (l := L) keyN rfl rfl ud58 zvN) look_at0) rfl ?_
   refine WL_r (Rd_add rfl rfl) rfl ?_
   refine WL_ac0 (Ac_putP (kf := kfN) (vf := vfN) (IntKind.i64.wrap (at0 (f p) L + 1)) keyN rfl rfl rfl ud58) rfl rfl ?_
   rintro _ _ rfl
   refine WL_nil ?_
   refine Ps_next hK8 ?_
   refine WC_region ?_
   refine WL_r (Rd_addN (j := 1) rfl rfl) rfl ?_
   refine WL_r (Rd_move rfl) rfl ?_
   refine WL_nil ?_
   refine Ps_wkB (hK5 ⟨i + 1, putL (f p) (IntKind.i64.wrap (at0 (f p) L + 1)) L⟩ (⟨by (try dsimp only); omega, kstep hp0 hkey⟩) (by (try dsimp only); omega))
  ·try simp only [dz, ne_eq] at hc0
   obtain rfl : i = l.length := by omega
   rw [List.take_length] at hkey
   refine WC_fact (fun w h => mpP_nd (m := m8) (kf := kfN) (vf := vfN) (l := L) hasA h) (fun hnd => ?_)
   refine WC_exit ?_
   refine Ps_next hK3 ?_
   refine WC_sr fun K10 hK10 => ?_
   refine WL_r (Rd_move rfl) rfl ?_
   refine WL_r (Rd_lenP rfl rfl ud58) rfl ?_
   refine WL_r (Rd_assign rfl) rfl ?_
   refine WL_end hK10 ?_
   refine WC_ret ?_
   exact hret.gfE () (Rs1 rfl rfl) (cnt_end hnd hkey hf)

theorem fst_ct {p : Pr}  : Ct Try.prog 30 [.agg (ePr p).toArray] [] (fun _ : Unit => .int .i64 p.1) (fun _ => []) := by
 refine Ct_body (n := 5) Try.func30 rfl rfl rfl fun F w0 Q hret hnorm hp => ?_
 change WC _ _ _ _ _ _ _ (F)
 refine WC_sr fun K1 hK1 => ?_
 refine WL_ac (Ac_box (xs := ePr p) rfl rfl) rfl rfl rfl ?_
 rintro _ _ ⟨b1, rfl, rfl⟩
 refine WL_r (Rd_assign rfl) rfl ?_
 refine WL_end hK1 ?_
 refine WC_sr fun K2 hK2 => ?_
 refine WL_r (Rd_fieldAddr rfl fo24_0) rfl ?_
 refine WL_r (Rd_load rfl tk3 (v := .int .i64 p.1)) rfl ?_
 refine WL_r (Rd_assign rfl) rfl ?_
 refine WL_end hK2 ?_
 refine WC_ret ?_
 exact hret.gfE () (Rs1 rfl rfl) rfl

theorem snd_ct {p : Pr}  : Ct Try.prog 31 [.agg (ePr p).toArray] [] (fun _ : Unit => .int .i64 p.2) (fun _ => []) := by
 refine Ct_body (n := 5) Try.func31 rfl rfl rfl fun F w0 Q hret hnorm hp => ?_
 change WC _ _ _ _ _ _ _ (F)
 refine WC_sr fun K1 hK1 => ?_
 refine WL_ac (Ac_box (xs := ePr p) rfl rfl) rfl rfl rfl ?_
 rintro _ _ ⟨b1, rfl, rfl⟩
 refine WL_r (Rd_assign rfl) rfl ?_
 refine WL_end hK1 ?_
 refine WC_sr fun K2 hK2 => ?_
 refine WL_r (Rd_fieldAddr rfl fo24_1) rfl ?_
 refine WL_r (Rd_load rfl tk3 (v := .int .i64 p.2)) rfl ?_
 refine WL_r (Rd_assign rfl) rfl ?_
 refine WL_end hK2 ?_
 refine WC_ret ?_
 exact hret.gfE () (Rs1 rfl rfl) rfl
end Go.Proofs.Ytilmiikfjcdllaa
