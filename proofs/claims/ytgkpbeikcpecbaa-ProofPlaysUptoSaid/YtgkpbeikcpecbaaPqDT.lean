/-
  Contracts of functions that the claim reaches, or the logic and the plain laws that they rest on, or the row over them. (Conditions: none beyond the statement.)
-/
import Derived.Test.YtgkpbeikcpecbaaPqD
import Derived.Test.YtgkpbeikcpecbaaLibD
set_option linter.all false
namespace Go.Proofs.Ytgkpbeikcpecbaa
open Go.RowKit Go.SL Go.ShM
set_option maxHeartbeats 1000000
set_option maxRecDepth 20000
set_option linter.all false
theorem cf112 : cfn Try.prog 112 = true := by kernel_rfl
theorem cf113 : cfn Try.prog 113 = true := by kernel_rfl
theorem el42 : el Try.prog 42 = some (32, 32) := by kernel_rfl
theorem ud76 : Try.prog.underlying 76 = some (.slice 42) := by kernel_rfl
theorem widthY_ct {n : Nat} (h1 : 1 ≤ n) (h2 : n ≤ 512) : Ct Try.prog 112 [.int .i64 ((n : Nat) : Int)] [] (fun _ : Unit => .tuple #[.int .i64 (((wdM n) : Nat) : Int), .int .i64 0]) (fun _ => []) := by
 refine Ct_body (n := 17) Try.func112 rfl rfl rfl fun F w0 Q hret hnorm hp => ?_
 change WC _ _ _ _ _ _ _ (F)
 refine WC_sr fun K1 hK1 => ?_
 refine WL_r (Rd_assign rfl) rfl ?_
 refine WL_r (Rd_assign rfl) rfl ?_
 refine WL_end hK1 ?_
 refine WC_seq fun K2 hK2 => ?_
 refine WC_sr fun K3 hK3 => ?_
 refine WL_r (Rd_move rfl) rfl ?_
 refine WL_r (Rd_isF (Rd_lssN (j := 1) rfl rfl)) rfl ?_
 refine WL_r (Rd_move rfl) rfl ?_
 refine WL_r (Rd_move rfl) rfl ?_
 refine WL_r (Rd_isF (Rd_gtrN (j := 512) rfl rfl)) rfl ?_
 refine WL_r (Rd_pickF rfl rfl) rfl ?_
 refine WL_end hK3 ?_
 refine WC_condF rfl ?_
 refine WC_skip ?_
 refine Ps_next hK2 ?_
 refine WC_sr fun K4 hK4 => ?_
 refine WL_r (Rd_assign rfl) rfl ?_
 refine WL_end hK4 ?_
 refine WC_seq fun K5 hK5 => ?_
 refine WC_block ?_
 have hp0 : (2:Nat) ^ 0 = 1 := rfl
 refine WC_loopK (σ := Nat) (fun k => [(4, .int .i64 (((2 ^ k) : Nat) : Int))]) (fun k => []) (fun k => k ≤ 9 ∧ (k = 0 ∨ 2 ^ (k - 1) < n)) (fun k => 9 - k) (0) [0, 2, 3, 16] kpA (by (try dsimp only); repeat (first | with_reducible exact Gv.nil | (with_reducible apply Gv.cons; · (repeat (first | with_reducible exact Ext.here | with_reducible apply Ext.there))))) ?_ ?_ Sub.refl ?_
 ·exact ⟨by omega, .inl rfl⟩
 ·(try dsimp only); exact (Wk.cons lkA Wk.nil)
 ·rintro k ⟨hk, hk2⟩ K6 hK6
  simp only [List.cons_append, List.nil_append]
  have hpk : 2 ^ k ≤ 512 := Nat.pow_le_pow_right (by omega) hk
  have hps : 2 ^ k * 2 = 2 ^ (k + 1) := rfl
  refine WC_seq fun K7 hK7 => ?_
  refine WC_sr fun K8 hK8 => ?_
  refine WL_r (Rd_move rfl) rfl ?_
  refine WL_r (Rd_move rfl) rfl ?_
  refine WL_r (Rd_lssN rfl rfl) rfl ?_
  refine WL_end hK8 ?_
  refine WC_cond rfl (fun hc1 => ?_) (fun hc1 => ?_)
  ·try simp only [dz, ne_eq] at hc1
   refine WC_skip ?_
   refine Ps_next hK7 ?_
   refine WC_block ?_
   refine WC_region ?_
   refine WL_r (Rd_move rfl) rfl ?_
   refine WL_r (Rd_mulN (j := 2) rfl rfl) rfl ?_
   rw [hps]
   refine WL_r (Rd_assign rfl) rfl ?_
   refine WL_nil ?_
   refine Ps_wkA (hK6 (k + 1) (⟨by rcases Nat.lt_or_ge k 9 with q | q; omega; (have : k = 9 := by omega); subst this; omega, .inr hc1⟩) (by rcases Nat.lt_or_ge k 9 with q | q; omega; (have : k = 9 := by omega); subst this; omega))
  ·try simp only [dz, ne_eq] at hc1
   refine WC_exit ?_
   refine Ps_next hK5 ?_
   refine WC_sr fun K9 hK9 => ?_
   refine WL_r (Rd_move rfl) rfl ?_
   refine WL_r (Rd_assign rfl) rfl ?_
   refine WL_r (Rd_assign rfl) rfl ?_
   refine WL_end hK9 ?_
   refine WC_ret ?_
   exact hret.goE () (Rs2 rfl rfl rfl) (by rw [← wd_at h1 hk hk2 (by omega)])

theorem widthN_ct {n : Int} (h1 : n < 1 ∨ 512 < n) : Ct Try.prog 112 [.int .i64 n] [] (fun _ : Unit => .tuple #[.int .i64 0, .int .i64 110]) (fun _ => []) := by
 refine Ct_body (n := 17) Try.func112 rfl rfl rfl fun F w0 Q hret hnorm hp => ?_
 change WC _ _ _ _ _ _ _ (F)
 refine WC_sr fun K1 hK1 => ?_
 refine WL_r (Rd_assign rfl) rfl ?_
 refine WL_r (Rd_assign rfl) rfl ?_
 refine WL_end hK1 ?_
 refine WC_seq fun K2 hK2 => ?_
 refine WC_sr fun K3 hK3 => ?_
 refine WL_r (Rd_move rfl) rfl ?_
 refine WL_r (Rd_lss rfl rfl) rfl ?_
 refine WL_r (Rd_move rfl) rfl ?_
 refine WL_bool 7 rfl (fun hg4 => ?_) (fun hg4 => ?_)
 ·try simp only [dz, ne_eq] at hg4
  refine WL_skip rfl rfl rfl ?_
  refine WL_skip rfl rfl rfl ?_
  refine WL_r (Rd_pickT rfl rfl) rfl ?_
  refine WL_end hK3 ?_
  refine WC_condT rfl ?_
  refine WC_sr fun K5 hK5 => ?_
  refine WL_r (Rd_assign rfl) rfl ?_
  refine WL_r (Rd_assign rfl) rfl ?_
  refine WL_end hK5 ?_
  refine WC_ret ?_
  exact hret.go () (Rs2 rfl rfl rfl)
 ·try simp only [dz, ne_eq] at hg4
  refine WL_r (Rd_move rfl) rfl ?_
  refine WL_r (Rd_gtr rfl rfl) rfl ?_
  refine WL_r (Rd_pickF rfl rfl) rfl ?_
  refine WL_end hK3 ?_
  refine WC_cond rfl (fun hc0 => ?_) (fun hc0 => ?_)
  ·try simp only [dz, ne_eq] at hc0
   refine WC_sr fun K6 hK6 => ?_
   refine WL_r (Rd_assign rfl) rfl ?_
   refine WL_r (Rd_assign rfl) rfl ?_
   refine WL_end hK6 ?_
   refine WC_ret ?_
   exact hret.go () (Rs2 rfl rfl rfl)
  ·try simp only [dz, ne_eq] at hc0
   omega

theorem width_ct {n : Int} : Ct Try.prog 112 [.int .i64 n] [] (fun _ : Unit => .tuple #[.int .i64 (((wdM n.toNat) : Nat) : Int), .int .i64 (((wdE n.toNat) : Nat) : Int)]) (fun _ => []) := by
  by_cases h : n < 1 ∨ 512 < n
  · obtain ⟨e1, e2⟩ := wd_no (n := n.toNat) (by omega)
    rw [e1, e2]
    exact widthN_ct (h1 := h)
  · obtain ⟨m, rfl⟩ := Int.eq_ofNat_of_zero_le (show 0 ≤ n by omega)
    have e2 := (wd_ok (n := m) (by omega) (by omega)).2.2.2.1
    rw [Int.toNat_natCast, e2]
    exact widthY_ct (h1 := by omega) (h2 := by omega)
end Go.Proofs.Ytgkpbeikcpecbaa
namespace Go.Proofs.Ytgkpbeikcpecbaa
open Go.RowKit Go.SL Go.ShM
set_option maxHeartbeats 1000000
set_option maxRecDepth 20000
set_option linter.all false
theorem cf77 : cfn Try.prog 77 = true := by kernel_rfl
end Go.Proofs.Ytgkpbeikcpecbaa
