/-
  Contracts of functions that the claim reaches, or the logic and the plain laws that they rest on, or the row over them. (Conditions: none beyond the statement.)
-/
import Derived.Test.YthkchjcodibaeaaZqTcC
set_option linter.all false
namespace Go.Proofs.Ythkchjcodibaeaa
open Go.RowKit Go.SL Go.ShM
set_option maxHeartbeats 1000000
set_option maxRecDepth 20000
set_option linter.all false

theorem rDiffer_ct {X : Asn} {v v' : Value} {a b : List Dg} {ao ao' : Option Addr} {cap cap' : Nat} (hS : Sv [X] v 32 fD a ao cap := by assumption) (hS' : Sv [X] v' 32 fD b ao' cap' := by assumption) (hl : a.length ≤ 900000000000 := by omega) : Ct Try.prog 120 [v, v'] [X] (fun _ : Unit => .tuple #[.int .i64 (((difV (difF a b)).1 : Nat) : Int), .bool (difV (difF a b)).2]) (fun _ => [X]) := by
  refine Ct_body (n := 68) Try.func120 rfl rfl rfl fun F w0 Q hret hnorm hp => ?_
  change WC _ _ _ _ _ _ _ (_ :: F)
  refine WC_sr fun K1 hK1 => ?_
  refine WL_rd (Rd_assign rfl) rfl rfl rfl ?_
  refine WL_rd (Rd_assign rfl) rfl rfl rfl ?_
  refine WL_end hK1 ?_
  refine WC_seq fun K2 hK2 => ?_
  refine WC_sr fun K3 hK3 => ?_
  refine WL_rd (Rd_move rfl) rfl rfl rfl ?_
  refine WL_rd (Rd_len_sv rfl rfl ud76) rfl rfl rfl ?_
  refine WL_rd (Rd_move rfl) rfl rfl rfl ?_
  refine WL_rd (Rd_len_sv rfl rfl ud76) rfl rfl rfl ?_
  refine WL_rd (Rd_neqN rfl rfl) rfl rfl rfl ?_
  refine WL_end hK3 ?_
  refine WC_cond rfl (fun hc0 => ?_) (fun hc0 => ?_)
  · try simp only [decide_eq_true_eq, decide_eq_false_iff_not, Bool.not_eq_true', Bool.not_eq_false', Bool.not_eq_true, Bool.not_eq_false, Int.not_lt, Int.not_le, Nat.not_lt, Nat.not_le, Decidable.not_not, ne_eq] at hc0
    have hno : difF a b = none := dif_no (fun h => by obtain ⟨h1, h2, h3, h4⟩ := h; omega)
    refine WC_sr fun K4 hK4 => ?_
    refine WL_rd (Rd_assign rfl) rfl rfl rfl ?_
    refine WL_rd (Rd_assign rfl) rfl rfl rfl ?_
    refine WL_end hK4 ?_
    refine WC_ret ?_
    first | exact hret.goE () (Rs2 rfl rfl rfl) (by rw [hno]; rfl) | exact hret.goE () (Rs2 rfl rfl rfl) (by rw [hso]; rfl)
  · try simp only [decide_eq_true_eq, decide_eq_false_iff_not, Bool.not_eq_true', Bool.not_eq_false', Bool.not_eq_true, Bool.not_eq_false, Int.not_lt, Int.not_le, Nat.not_lt, Nat.not_le, Decidable.not_not, ne_eq] at hc0
    refine WC_skip ?_
    refine Ps_next hK2 ?_
    refine WC_seq fun K5 hK5 => ?_
    refine WC_sr fun K6 hK6 => ?_
    refine WL_rd (Rd_assign rfl) rfl rfl rfl ?_
    refine WL_end hK6 ?_
    refine WC_block ?_
    have hp0 : (2:Nat) ^ 0 = 1 := rfl
    refine WC_loopK (σ := Nat) (fun k => [(6, .int .i64 (((2 ^ k) : Nat) : Int))]) (fun k => []) (fun k => k ≤ 10 ∧ dR a b k) (fun k => 10 - k) (0) [0, 1] (by repeat (first | exact Kep.nil | apply Kep.drop rfl | apply Kep.keep rfl)) (by (try dsimp only); repeat (first | with_reducible exact Gv.nil | (with_reducible apply Gv.cons; · (repeat (first | with_reducible exact Ext.here | with_reducible apply Ext.there))))) ?_ ?_ Sub.refl ?_
    · exact ⟨by omega, dR_0⟩
    · (try dsimp only); exact (Wk.cons (by first | rfl | (simp only [List.length_append, List.length_cons, List.length_nil, List.length_replicate, Nat.zero_add]; rfl) | (simp; done)) Wk.nil)
    · rintro k ⟨hk, hdr⟩ K7 hK7
      simp only [List.cons_append, List.nil_append]
      have hpk : 2 ^ k ≤ 1024 := Nat.pow_le_pow_right (by omega) hk
      have hpp : 1 ≤ 2 ^ k := Nat.one_le_two_pow
      have hps : 2 ^ k * 2 = 2 ^ (k + 1) := rfl
      refine WC_seq fun K8 hK8 => ?_
      refine WC_sr fun K9 hK9 => ?_
      refine WL_rd (Rd_move rfl) rfl rfl rfl ?_
      refine WL_rd (Rd_leqN (j := 512) rfl rfl) rfl rfl rfl ?_
      refine WL_end hK9 ?_
      refine WC_cond rfl (fun hc1 => ?_) (fun hc1 => ?_)
      · try simp only [decide_eq_true_eq, decide_eq_false_iff_not, Bool.not_eq_true', Bool.not_eq_false', Bool.not_eq_true, Bool.not_eq_false, Int.not_lt, Int.not_le, Nat.not_lt, Nat.not_le, Decidable.not_not, ne_eq] at hc1
        have hk9 : k ≤ 9 := by rcases Nat.lt_or_ge k 10 with q | q; omega; (have hk10 : k = 10 := by omega); subst hk10; omega
        have hp9 : 2 ^ k ≤ 512 := hc1
        refine WC_skip ?_
        refine Ps_next hK8 ?_
        refine WC_seq fun K10 hK10 => ?_
        refine WC_block ?_
        refine WC_seq fun K11 hK11 => ?_
        refine WC_sr fun K12 hK12 => ?_
        refine WL_rd (Rd_move rfl) rfl rfl rfl ?_
        refine WL_rd (Rd_len_sv rfl rfl ud76) rfl rfl rfl ?_
        refine WL_rd (Rd_move rfl) rfl rfl rfl ?_
        refine WL_rd (Rd_mulN (i := 2) rfl rfl) rfl rfl rfl ?_
        refine WL_rd (Rd_subN (j := 1) rfl rfl) rfl rfl rfl ?_
        refine WL_rd (Rd_neqN rfl rfl) rfl rfl rfl ?_
        refine WL_end hK12 ?_
        refine WC_cond rfl (fun hc2 => ?_) (fun hc2 => ?_)
        · try simp only [decide_eq_true_eq, decide_eq_false_iff_not, Bool.not_eq_true', Bool.not_eq_false', Bool.not_eq_true, Bool.not_eq_false, Int.not_lt, Int.not_le, Nat.not_lt, Nat.not_le, Decidable.not_not, ne_eq] at hc2
          refine WC_exit ?_
          refine Ps_next hK10 ?_
          refine WC_region ?_
          refine WL_rd (Rd_move rfl) rfl rfl rfl ?_
          refine WL_rd (Rd_mulN (j := 2) rfl rfl) rfl rfl rfl ?_
          rw [hps]
          refine WL_rd (Rd_assign rfl) rfl rfl rfl ?_
          refine WL_nil ?_
          refine Ps_wk (by (try simp only [List.cons_append, List.nil_append]); repeat (first | with_reducible exact Wk.nil | refine Wk.cons (by first | rfl | (simp only [List.length_append, List.length_cons, List.length_nil, List.length_replicate, Nat.zero_add]; rfl) | (simp; done)) ?_)) (by (try simp only [List.cons_append, List.nil_append]); repeat (first | with_reducible exact Sub.refl | with_reducible exact Sub.nil | with_reducible refine Sub.cons (by repeat (first | with_reducible exact Ext.here | with_reducible apply Ext.there)) ?_ | with_reducible refine Sub.tail ?_)) (hK7 (k + 1) (⟨by omega, dR_succ hdr (fun e => absurd e hc2)⟩) (by omega))
        · try simp only [decide_eq_true_eq, decide_eq_false_iff_not, Bool.not_eq_true', Bool.not_eq_false', Bool.not_eq_true, Bool.not_eq_false, Int.not_lt, Int.not_le, Nat.not_lt, Nat.not_le, Decidable.not_not, ne_eq] at hc2
          refine WC_skip ?_
          refine Ps_next hK11 ?_
          refine WC_sr fun K13 hK13 => ?_
          refine WL_rd (Rd_assign rfl) rfl rfl rfl ?_
          refine WL_end hK13 ?_
          refine WC_block ?_
          refine WC_loopK (σ := Nat) (fun x => [(7, .int .i64 ((x : Nat) : Int))]) (fun x => []) (fun x => 1 ≤ x ∧ x ≤ 2 ^ k ∧ (∀ y, 1 ≤ y → y < x → dP a b y = false)) (fun x => 2 ^ k - x) (1) [0, 1, 6, 13, 14, 15, 16, 17, 18, 19, 20, 21, 22] (by repeat (first | exact Kep.nil | apply Kep.drop rfl | apply Kep.keep rfl)) (by (try dsimp only); repeat (first | with_reducible exact Gv.nil | (with_reducible apply Gv.cons; · (repeat (first | with_reducible exact Ext.here | with_reducible apply Ext.there))))) ?_ ?_ Sub.refl ?_
          · exact ⟨by omega, Nat.one_le_two_pow, fun y h1 h2 => by omega⟩
          · (try dsimp only); exact (Wk.cons (by first | rfl | (simp only [List.length_append, List.length_cons, List.length_nil, List.length_replicate, Nat.zero_add]; rfl) | (simp; done)) Wk.nil)
          · rintro x ⟨hx1, hxw, hx'⟩ K14 hK14
            simp only [List.cons_append, List.nil_append]
            have hda1 := Dg_len (a.getD (x - 1) zD)
            have hdb1 := Dg_len (b.getD (x - 1) zD)
            have hda2 := Dg_len (a.getD (2 * x - 1) zD)
            have hdb2 := Dg_len (b.getD (2 * x - 1) zD)
            have hda3 := Dg_len (a.getD (2 * x) zD)
            have hdb3 := Dg_len (b.getD (2 * x) zD)
            refine WC_seq fun K15 hK15 => ?_
            refine WC_sr fun K16 hK16 => ?_
            refine WL_rd (Rd_move rfl) rfl rfl rfl ?_
            refine WL_rd (Rd_move rfl) rfl rfl rfl ?_
            refine WL_rd (Rd_lssN rfl rfl) rfl rfl rfl ?_
            refine WL_end hK16 ?_
            refine WC_cond rfl (fun hc3 => ?_) (fun hc3 => ?_)
            · try simp only [decide_eq_true_eq, decide_eq_false_iff_not, Bool.not_eq_true', Bool.not_eq_false', Bool.not_eq_true, Bool.not_eq_false, Int.not_lt, Int.not_le, Nat.not_lt, Nat.not_le, Decidable.not_not, ne_eq] at hc3
              refine WC_skip ?_
              refine Ps_next hK15 ?_
              refine WC_seq fun K17 hK17 => ?_
              refine WC_block ?_
              refine WC_seq fun K18 hK18 => ?_
              refine WC_drawA mix (fun i => ([2, 2, 2, 2, 2, 2, 2, 2, 2, 2, 2, 2, 2, 2, 2, 2, 2, 2, 2, 2, 2, 2, 2, 2, 2, 2, 2, 2, 2, 2, 2, 2, 2, 2, 2, 2, 2, 2, 2] : List Nat).getD i 0) ?_
              refine WJ_takeP 0 rfl (by kernel_rfl) (Rd_move rfl) rfl rfl rfl (hp _ _) ?_
              refine WJ_takeP 1 rfl (by kernel_rfl) (Rd_move rfl) rfl rfl rfl (hp _ _) ?_
              refine WJ_takeP 2 rfl (by kernel_rfl) (Rd_subN (j := 1) rfl rfl) rfl rfl rfl (hp _ _) ?_
              refine WJ_takeP 3 rfl (by kernel_rfl) (Rd_index_sv (x - 1) rfl rfl ud76 sz42 (hA := hS) (hj := by omega) (hi := by omega)) rfl rfl rfl (hp _ _) ?_
              refine WJ_tk 4 (Rd_aU (k := .u8) (l := ((a).getD (x - 1) zD).1) (Rd_loadg_sv (i := x - 1) rfl tk42 (hA := hS) (hl := at_of (by omega))) rfl) hp ?_ rfl (by kernel_rfl) rfl rfl rfl
              refine WJ_takeP 5 rfl (by kernel_rfl) (Rd_move rfl) rfl rfl rfl (hp _ _) ?_
              refine WJ_takeP 6 rfl (by kernel_rfl) (Rd_move rfl) rfl rfl rfl (hp _ _) ?_
              refine WJ_takeP 7 rfl (by kernel_rfl) (Rd_subN (j := 1) rfl rfl) rfl rfl rfl (hp _ _) ?_
              refine WJ_takeP 8 rfl (by kernel_rfl) (Rd_index_sv (x - 1) rfl rfl ud76 sz42 (hA := hS') (hj := by omega) (hi := by omega)) rfl rfl rfl (hp _ _) ?_
              refine WJ_tk 9 (Rd_aU (k := .u8) (l := ((b).getD (x - 1) zD).1) (Rd_loadg_sv (i := x - 1) rfl tk42 (hA := hS') (hl := at_of (by omega))) rfl) hp ?_ rfl (by kernel_rfl) rfl rfl rfl
              refine WJ_takeP 10 rfl (by kernel_rfl) (Rd_eqW rfl rfl ais42) rfl rfl rfl (hp _ _) ?_
              refine WJ_takeP 11 rfl (by kernel_rfl) (Rd_move rfl) rfl rfl rfl (hp _ _) ?_
              refine WJ_bool 39 rfl (fun hg19 => ?_) (fun hg19 => ?_)
              · try simp only [decide_eq_true_eq, decide_eq_false_iff_not, Bool.not_eq_true', Bool.not_eq_false', Bool.not_eq_true, Bool.not_eq_false, Int.not_lt, Int.not_le, Nat.not_lt, Nat.not_le, Decidable.not_not, ne_eq] at hg19
                have p0 := hg19
                refine WJ_takeP 12 rfl (by kernel_rfl) (Rd_move rfl) rfl rfl rfl (hp _ _) ?_
                refine WJ_takeP 13 rfl (by kernel_rfl) (Rd_move rfl) rfl rfl rfl (hp _ _) ?_
                refine WJ_takeP 14 rfl (by kernel_rfl) (Rd_mulN (i := 2) rfl rfl) rfl rfl rfl (hp _ _) ?_
                refine WJ_takeP 15 rfl (by kernel_rfl) (Rd_subN (j := 1) rfl rfl) rfl rfl rfl (hp _ _) ?_
                refine WJ_takeP 16 rfl (by kernel_rfl) (Rd_index_sv (2 * x - 1) rfl rfl ud76 sz42 (hA := hS) (hj := by omega) (hi := by omega)) rfl rfl rfl (hp _ _) ?_
                refine WJ_tk 17 (Rd_aU (k := .u8) (l := ((a).getD (2 * x - 1) zD).1) (Rd_loadg_sv (i := 2 * x - 1) rfl tk42 (hA := hS) (hl := at_of (by omega))) rfl) hp ?_ rfl (by kernel_rfl) rfl rfl rfl
                refine WJ_takeP 18 rfl (by kernel_rfl) (Rd_move rfl) rfl rfl rfl (hp _ _) ?_
                refine WJ_takeP 19 rfl (by kernel_rfl) (Rd_move rfl) rfl rfl rfl (hp _ _) ?_
                refine WJ_takeP 20 rfl (by kernel_rfl) (Rd_mulN (i := 2) rfl rfl) rfl rfl rfl (hp _ _) ?_
                refine WJ_takeP 21 rfl (by kernel_rfl) (Rd_subN (j := 1) rfl rfl) rfl rfl rfl (hp _ _) ?_
                refine WJ_takeP 22 rfl (by kernel_rfl) (Rd_index_sv (2 * x - 1) rfl rfl ud76 sz42 (hA := hS') (hj := by omega) (hi := by omega)) rfl rfl rfl (hp _ _) ?_
                refine WJ_tk 23 (Rd_aU (k := .u8) (l := ((b).getD (2 * x - 1) zD).1) (Rd_loadg_sv (i := 2 * x - 1) rfl tk42 (hA := hS') (hl := at_of (by omega))) rfl) hp ?_ rfl (by kernel_rfl) rfl rfl rfl
                refine WJ_takeP 24 rfl (by kernel_rfl) (Rd_neW rfl rfl ais42) rfl rfl rfl (hp _ _) ?_
                refine WJ_takeP 25 rfl (by kernel_rfl) (Rd_move rfl) rfl rfl rfl (hp _ _) ?_
                refine WJ_bool 53 rfl (fun hg20 => ?_) (fun hg20 => ?_)
                · try simp only [decide_eq_true_eq, decide_eq_false_iff_not, Bool.not_eq_true', Bool.not_eq_false', Bool.not_eq_true, Bool.not_eq_false, Int.not_lt, Int.not_le, Nat.not_lt, Nat.not_le, Decidable.not_not, ne_eq] at hg20
                  have p1 := hg20
                  have hx := dP_yes1 p0 p1
                  refine WJ_skip 26 rfl (by kernel_rfl) rfl rfl rfl (hp _ _) ?_
                  refine WJ_skip 27 rfl (by kernel_rfl) rfl rfl rfl (hp _ _) ?_
                  refine WJ_skip 28 rfl (by kernel_rfl) rfl rfl rfl (hp _ _) ?_
                  refine WJ_skip 29 rfl (by kernel_rfl) rfl rfl rfl (hp _ _) ?_
                  refine WJ_skip 30 rfl (by kernel_rfl) rfl rfl rfl (hp _ _) ?_
                  refine WJ_skip 31 rfl (by kernel_rfl) rfl rfl rfl (hp _ _) ?_
                  refine WJ_skip 32 rfl (by kernel_rfl) rfl rfl rfl (hp _ _) ?_
                  refine WJ_skip 33 rfl (by kernel_rfl) rfl rfl rfl (hp _ _) ?_
                  refine WJ_skip 34 rfl (by kernel_rfl) rfl rfl rfl (hp _ _) ?_
                  refine WJ_skip 35 rfl (by kernel_rfl) rfl rfl rfl (hp _ _) ?_
                  refine WJ_skip 36 rfl (by kernel_rfl) rfl rfl rfl (hp _ _) ?_
                  refine WJ_takeP 37 rfl (by kernel_rfl) (Rd_pickT rfl rfl) rfl rfl rfl (hp _ _) ?_
                  refine WJ_takeP 38 rfl (by kernel_rfl) (Rd_pickT rfl rfl) rfl rfl rfl (hp _ _) ?_
                  refine WJ_done (by kernel_rfl) ?_
                  refine Ps_next hK18 ?_
                  refine WC_condT rfl ?_
                  have hx2 : dP a b x = true := by first | exact hx | exact dP_yes2 p0 hc4
                  have hso := dR_some hk9 (show b.length = a.length by omega) (by omega) hx1 hc3 hx2 hx'
                  refine WC_sr fun K21 hK21 => ?_
                  refine WL_rd (Rd_move rfl) rfl rfl rfl ?_
                  refine WL_rd (Rd_assign rfl) rfl rfl rfl ?_
                  refine WL_rd (Rd_assign rfl) rfl rfl rfl ?_
                  refine WL_end hK21 ?_
                  refine WC_ret ?_
                  first | exact hret.goE () (Rs2 rfl rfl rfl) (by rw [hno]; rfl) | exact hret.goE () (Rs2 rfl rfl rfl) (by rw [hso]; rfl)
                · try simp only [decide_eq_true_eq, decide_eq_false_iff_not, Bool.not_eq_true', Bool.not_eq_false', Bool.not_eq_true, Bool.not_eq_false, Int.not_lt, Int.not_le, Nat.not_lt, Nat.not_le, Decidable.not_not, ne_eq] at hg20
                  have p1 := hg20
                  refine WJ_takeP 26 rfl (by kernel_rfl) (Rd_move rfl) rfl rfl rfl (hp _ _) ?_
                  refine WJ_takeP 27 rfl (by kernel_rfl) (Rd_move rfl) rfl rfl rfl (hp _ _) ?_
                  refine WJ_takeP 28 rfl (by kernel_rfl) (Rd_mulN (i := 2) rfl rfl) rfl rfl rfl (hp _ _) ?_
                  refine WJ_takeP 29 rfl (by kernel_rfl) (Rd_index_sv (2 * x) rfl rfl ud76 sz42 (hA := hS) (hj := by omega) (hi := by omega)) rfl rfl rfl (hp _ _) ?_
                  refine WJ_tk 30 (Rd_aU (k := .u8) (l := ((a).getD (2 * x) zD).1) (Rd_loadg_sv (i := 2 * x) rfl tk42 (hA := hS) (hl := at_of (by omega))) rfl) hp ?_ rfl (by kernel_rfl) rfl rfl rfl
                  refine WJ_takeP 31 rfl (by kernel_rfl) (Rd_move rfl) rfl rfl rfl (hp _ _) ?_
                  refine WJ_takeP 32 rfl (by kernel_rfl) (Rd_move rfl) rfl rfl rfl (hp _ _) ?_
                  refine WJ_takeP 33 rfl (by kernel_rfl) (Rd_mulN (i := 2) rfl rfl) rfl rfl rfl (hp _ _) ?_
                  refine WJ_takeP 34 rfl (by kernel_rfl) (Rd_index_sv (2 * x) rfl rfl ud76 sz42 (hA := hS') (hj := by omega) (hi := by omega)) rfl rfl rfl (hp _ _) ?_
                  refine WJ_tk 35 (Rd_aU (k := .u8) (l := ((b).getD (2 * x) zD).1) (Rd_loadg_sv (i := 2 * x) rfl tk42 (hA := hS') (hl := at_of (by omega))) rfl) hp ?_ rfl (by kernel_rfl) rfl rfl rfl
                  refine WJ_takeP 36 rfl (by kernel_rfl) (Rd_neW rfl rfl ais42) rfl rfl rfl (hp _ _) ?_
                  refine WJ_takeP 37 rfl (by kernel_rfl) (Rd_pickF rfl rfl) rfl rfl rfl (hp _ _) ?_
                  refine WJ_takeP 38 rfl (by kernel_rfl) (Rd_pickT rfl rfl) rfl rfl rfl (hp _ _) ?_
                  refine WJ_done (by kernel_rfl) ?_
                  refine Ps_next hK18 ?_
                  refine WC_cond rfl (fun hc4 => ?_) (fun hc4 => ?_)
                  · try simp only [decide_eq_true_eq, decide_eq_false_iff_not, Bool.not_eq_true', Bool.not_eq_false', Bool.not_eq_true, Bool.not_eq_false, Int.not_lt, Int.not_le, Nat.not_lt, Nat.not_le, Decidable.not_not, ne_eq] at hc4
                    have hx2 : dP a b x = true := by first | exact hx | exact dP_yes2 p0 hc4
                    have hso := dR_some hk9 (show b.length = a.length by omega) (by omega) hx1 hc3 hx2 hx'
                    refine WC_sr fun K22 hK22 => ?_
                    refine WL_rd (Rd_move rfl) rfl rfl rfl ?_
                    refine WL_rd (Rd_assign rfl) rfl rfl rfl ?_
                    refine WL_rd (Rd_assign rfl) rfl rfl rfl ?_
                    refine WL_end hK22 ?_
                    refine WC_ret ?_
                    first | exact hret.goE () (Rs2 rfl rfl rfl) (by rw [hno]; rfl) | exact hret.goE () (Rs2 rfl rfl rfl) (by rw [hso]; rfl)
                  · try simp only [decide_eq_true_eq, decide_eq_false_iff_not, Bool.not_eq_true', Bool.not_eq_false', Bool.not_eq_true, Bool.not_eq_false, Int.not_lt, Int.not_le, Nat.not_lt, Nat.not_le, Decidable.not_not, ne_eq] at hc4
                    refine WC_skip ?_
                    refine Ps_next hK17 ?_
                    refine WC_region ?_
                    refine WL_rd (Rd_move rfl) rfl rfl rfl ?_
                    refine WL_rd (Rd_addN (j := 1) rfl rfl) rfl rfl rfl ?_
                    refine WL_rd (Rd_assign rfl) rfl rfl rfl ?_
                    refine WL_nil ?_
                    refine Ps_wk (by (try simp only [List.cons_append, List.nil_append]); repeat (first | with_reducible exact Wk.nil | refine Wk.cons (by first | rfl | (simp only [List.length_append, List.length_cons, List.length_nil, List.length_replicate, Nat.zero_add]; rfl) | (simp; done)) ?_)) (by (try simp only [List.cons_append, List.nil_append]); repeat (first | with_reducible exact Sub.refl | with_reducible exact Sub.nil | with_reducible refine Sub.cons (by repeat (first | with_reducible exact Ext.here | with_reducible apply Ext.there)) ?_ | with_reducible refine Sub.tail ?_)) (hK14 (x + 1) (⟨by omega, by omega, fun y h1 h2 => by rcases Nat.lt_or_ge y x with z | z; exact hx' y h1 z; (have : y = x := by omega); subst this; first | exact hx | exact dP_no2 p1 hc4⟩) (by omega))
              · try simp only [decide_eq_true_eq, decide_eq_false_iff_not, Bool.not_eq_true', Bool.not_eq_false', Bool.not_eq_true, Bool.not_eq_false, Int.not_lt, Int.not_le, Nat.not_lt, Nat.not_le, Decidable.not_not, ne_eq] at hg19
                have p0 := hg19
                have hx := dP_no1 p0
                refine WJ_skip 12 rfl (by kernel_rfl) rfl rfl rfl (hp _ _) ?_
                refine WJ_skip 13 rfl (by kernel_rfl) rfl rfl rfl (hp _ _) ?_
                refine WJ_skip 14 rfl (by kernel_rfl) rfl rfl rfl (hp _ _) ?_
                refine WJ_skip 15 rfl (by kernel_rfl) rfl rfl rfl (hp _ _) ?_
                refine WJ_skip 16 rfl (by kernel_rfl) rfl rfl rfl (hp _ _) ?_
                refine WJ_skip 17 rfl (by kernel_rfl) rfl rfl rfl (hp _ _) ?_
                refine WJ_skip 18 rfl (by kernel_rfl) rfl rfl rfl (hp _ _) ?_
                refine WJ_skip 19 rfl (by kernel_rfl) rfl rfl rfl (hp _ _) ?_
                refine WJ_skip 20 rfl (by kernel_rfl) rfl rfl rfl (hp _ _) ?_
                refine WJ_skip 21 rfl (by kernel_rfl) rfl rfl rfl (hp _ _) ?_
                refine WJ_skip 22 rfl (by kernel_rfl) rfl rfl rfl (hp _ _) ?_
                refine WJ_skip 23 rfl (by kernel_rfl) rfl rfl rfl (hp _ _) ?_
                refine WJ_skip 24 rfl (by kernel_rfl) rfl rfl rfl (hp _ _) ?_
                refine WJ_skip 25 rfl (by kernel_rfl) rfl rfl rfl (hp _ _) ?_
                refine WJ_skip 26 rfl (by kernel_rfl) rfl rfl rfl (hp _ _) ?_
                refine WJ_skip 27 rfl (by kernel_rfl) rfl rfl rfl (hp _ _) ?_
                refine WJ_skip 28 rfl (by kernel_rfl) rfl rfl rfl (hp _ _) ?_
                refine WJ_skip 29 rfl (by kernel_rfl) rfl rfl rfl (hp _ _) ?_
                refine WJ_skip 30 rfl (by kernel_rfl) rfl rfl rfl (hp _ _) ?_
                refine WJ_skip 31 rfl (by kernel_rfl) rfl rfl rfl (hp _ _) ?_
                refine WJ_skip 32 rfl (by kernel_rfl) rfl rfl rfl (hp _ _) ?_
                refine WJ_skip 33 rfl (by kernel_rfl) rfl rfl rfl (hp _ _) ?_
                refine WJ_skip 34 rfl (by kernel_rfl) rfl rfl rfl (hp _ _) ?_
                refine WJ_skip 35 rfl (by kernel_rfl) rfl rfl rfl (hp _ _) ?_
                refine WJ_skip 36 rfl (by kernel_rfl) rfl rfl rfl (hp _ _) ?_
                refine WJ_skip 37 rfl (by kernel_rfl) rfl rfl rfl (hp _ _) ?_
                refine WJ_takeP 38 rfl (by kernel_rfl) (Rd_pickF rfl rfl) rfl rfl rfl (hp _ _) ?_
                refine WJ_done (by kernel_rfl) ?_
                refine Ps_next hK18 ?_
                refine WC_condF rfl ?_
                refine WC_skip ?_
                refine Ps_next hK17 ?_
                refine WC_region ?_
                refine WL_rd (Rd_move rfl) rfl rfl rfl ?_
                refine WL_rd (Rd_addN (j := 1) rfl rfl) rfl rfl rfl ?_
                refine WL_rd (Rd_assign rfl) rfl rfl rfl ?_
                refine WL_nil ?_
                refine Ps_wk (by (try simp only [List.cons_append, List.nil_append]); repeat (first | with_reducible exact Wk.nil | refine Wk.cons (by first | rfl | (simp only [List.length_append, List.length_cons, List.length_nil, List.length_replicate, Nat.zero_add]; rfl) | (simp; done)) ?_)) (by (try simp only [List.cons_append, List.nil_append]); repeat (first | with_reducible exact Sub.refl | with_reducible exact Sub.nil | with_reducible refine Sub.cons (by repeat (first | with_reducible exact Ext.here | with_reducible apply Ext.there)) ?_ | with_reducible refine Sub.tail ?_)) (hK14 (x + 1) (⟨by omega, by omega, fun y h1 h2 => by rcases Nat.lt_or_ge y x with z | z; exact hx' y h1 z; (have : y = x := by omega); subst this; first | exact hx | exact dP_no2 p1 hc4⟩) (by omega))
            · try simp only [decide_eq_true_eq, decide_eq_false_iff_not, Bool.not_eq_true', Bool.not_eq_false', Bool.not_eq_true, Bool.not_eq_false, Int.not_lt, Int.not_le, Nat.not_lt, Nat.not_le, Decidable.not_not, ne_eq] at hc3
              refine WC_exit ?_
              refine Ps_next hK10 ?_
              refine WC_region ?_
              refine WL_rd (Rd_move rfl) rfl rfl rfl ?_
              refine WL_rd (Rd_mulN (j := 2) rfl rfl) rfl rfl rfl ?_
              rw [hps]
              refine WL_rd (Rd_assign rfl) rfl rfl rfl ?_
              refine WL_nil ?_
              refine Ps_wk (by (try simp only [List.cons_append, List.nil_append]); repeat (first | with_reducible exact Wk.nil | refine Wk.cons (by first | rfl | (simp only [List.length_append, List.length_cons, List.length_nil, List.length_replicate, Nat.zero_add]; rfl) | (simp; done)) ?_)) (by (try simp only [List.cons_append, List.nil_append]); repeat (first | with_reducible exact Sub.refl | with_reducible exact Sub.nil | with_reducible refine Sub.cons (by repeat (first | with_reducible exact Ext.here | with_reducible apply Ext.there)) ?_ | with_reducible refine Sub.tail ?_)) (hK7 (k + 1) (⟨by omega, dR_succ hdr (fun _ y h1 h2 => hx' y h1 (by omega))⟩) (by omega))
      · try simp only [decide_eq_true_eq, decide_eq_false_iff_not, Bool.not_eq_true', Bool.not_eq_false', Bool.not_eq_true, Bool.not_eq_false, Int.not_lt, Int.not_le, Nat.not_lt, Nat.not_le, Decidable.not_not, ne_eq] at hc1
        have hk10 : 9 < k := by rcases Nat.lt_or_ge 9 k with q | q; exact q; (have := Nat.pow_le_pow_right (n := 2) (by omega) q); omega
        have hno := dR_end hdr hk10
        refine WC_exit ?_
        refine Ps_next hK5 ?_
        refine WC_sr fun K23 hK23 => ?_
        refine WL_rd (Rd_assign rfl) rfl rfl rfl ?_
        refine WL_rd (Rd_assign rfl) rfl rfl rfl ?_
        refine WL_end hK23 ?_
        refine WC_ret ?_
        first | exact hret.goE () (Rs2 rfl rfl rfl) (by rw [hno]; rfl) | exact hret.goE () (Rs2 rfl rfl rfl) (by rw [hso]; rfl)
end Go.Proofs.Ythkchjcodibaeaa
