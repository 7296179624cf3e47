/-
  Contracts of functions that the claim reaches, or the logic and the plain laws that they rest on, or the row over them. (Conditions: none beyond the statement.)
-/
import Derived.Test.YthkchjcodibaeaaZqDT
set_option linter.all false
namespace Go.Proofs.Ythkchjcodibaeaa
open Go.RowKit Go.SL Go.ShM
set_option maxHeartbeats 1000000
set_option maxRecDepth 20000
set_option linter.all false

theorem sameD_ct {X : Asn} {v v' : Value} {l l' : List Dg} {ao ao' : Option Addr} {cap cap' : Nat} (hS : Sv [X] v 32 fD l ao cap := by assumption) (hS' : Sv [X] v' 32 fD l' ao' cap' := by assumption) (hl : l.length ≤ 900000000000 := by omega) : Ct Try.prog 56 [v, v'] [X] (fun _ : Unit => .bool (decide (l = l'))) (fun _ => [X]) := by
  refine Ct_body (n := 26) Try.func56 rfl rfl rfl fun F w0 Q hret hnorm hp => ?_
  change WC _ _ _ _ _ _ _ (_ :: F)
  refine WC_sr fun K1 hK1 => ?_
  refine WL_rd (Rd_assign rfl) rfl rfl rfl ?_
  refine WL_end hK1 ?_
  refine WC_seq fun K2 hK2 => ?_
  refine WC_sr fun K3 hK3 => ?_
  refine WL_rd (Rd_move rfl) rfl rfl rfl ?_
  refine WL_rd (Rd_len_sv rfl rfl ud76) rfl rfl rfl ?_
  refine WL_rd (Rd_move rfl) rfl rfl rfl ?_
  refine WL_rd (Rd_len_sv rfl rfl ud76) rfl rfl rfl ?_
  refine WL_rd (Rd_neqN rfl rfl) rfl rfl rfl ?_
  refine WL_end hK3 ?_
  refine WC_cond rfl (fun hc0 => ?_) (fun hc0 => ?_)
  · try simp only [decide_eq_true_eq, decide_eq_false_iff_not, Bool.not_eq_true', Bool.not_eq_false', Bool.not_eq_true, Bool.not_eq_false, Int.not_lt, Int.not_le, Nat.not_lt, Nat.not_le, Decidable.not_not, ne_eq] at hc0
    refine WC_sr fun K4 hK4 => ?_
    refine WL_rd (Rd_assign rfl) rfl rfl rfl ?_
    refine WL_end hK4 ?_
    refine WC_ret ?_
    first | exact hret.goE () (Rs1 rfl rfl) (bF (ne_len hc0)) | exact hret.goE () (Rs1 rfl rfl) (bF (dg_ne hc2)) | exact hret.goE () (Rs1 rfl rfl) (bT (eq_take hi.2 (by omega)))
  · try simp only [decide_eq_true_eq, decide_eq_false_iff_not, Bool.not_eq_true', Bool.not_eq_false', Bool.not_eq_true, Bool.not_eq_false, Int.not_lt, Int.not_le, Nat.not_lt, Nat.not_le, Decidable.not_not, ne_eq] at hc0
    refine WC_skip ?_
    refine Ps_next hK2 ?_
    refine WC_seq fun K5 hK5 => ?_
    refine WC_sr fun K6 hK6 => ?_
    refine WL_rd (Rd_assign rfl) rfl rfl rfl ?_
    refine WL_end hK6 ?_
    refine WC_block ?_
    refine WC_loopK (σ := Nat) (fun i' => [(5, .int .i64 ((i' : Nat) : Int))]) (fun i' => []) (fun i' => i' ≤ l.length ∧ l.take i' = l'.take i') (fun i' => l.length - i') (0) [0, 1] (by repeat (first | exact Kep.nil | apply Kep.drop rfl | apply Kep.keep rfl)) (by (try dsimp only); repeat (first | with_reducible exact Gv.nil | (with_reducible apply Gv.cons; · (repeat (first | with_reducible exact Ext.here | with_reducible apply Ext.there))))) ?_ ?_ Sub.refl ?_
    · exact ⟨Nat.zero_le _, rfl⟩
    · (try dsimp only); exact (Wk.cons (by first | rfl | (simp only [List.length_append, List.length_cons, List.length_nil, List.length_replicate, Nat.zero_add]; rfl) | (simp; done)) Wk.nil)
    · rintro i' hi K7 hK7
      simp only [List.cons_append, List.nil_append]
      have hd1 := Dg_len (l.getD i' zD)
      have hd2 := Dg_len (l'.getD i' zD)
      refine WC_seq fun K8 hK8 => ?_
      refine WC_sr fun K9 hK9 => ?_
      refine WL_rd (Rd_move rfl) rfl rfl rfl ?_
      refine WL_rd (Rd_move rfl) rfl rfl rfl ?_
      refine WL_rd (Rd_len_sv rfl rfl ud76) rfl rfl rfl ?_
      refine WL_rd (Rd_lssN rfl rfl) rfl rfl rfl ?_
      refine WL_end hK9 ?_
      refine WC_cond rfl (fun hc1 => ?_) (fun hc1 => ?_)
      · try simp only [decide_eq_true_eq, decide_eq_false_iff_not, Bool.not_eq_true', Bool.not_eq_false', Bool.not_eq_true, Bool.not_eq_false, Int.not_lt, Int.not_le, Nat.not_lt, Nat.not_le, Decidable.not_not, ne_eq] at hc1
        refine WC_skip ?_
        refine Ps_next hK8 ?_
        refine WC_seq fun K10 hK10 => ?_
        refine WC_block ?_
        refine WC_seq fun K11 hK11 => ?_
        refine WC_drawA mix (fun i => ([2, 2, 2, 2, 2, 2, 2, 2, 2] : List Nat).getD i 0) ?_
        refine WJ_takeP 0 rfl (by kernel_rfl) (Rd_move rfl) rfl rfl rfl (hp _ _) ?_
        refine WJ_takeP 1 rfl (by kernel_rfl) (Rd_move rfl) rfl rfl rfl (hp _ _) ?_
        refine WJ_takeP 2 rfl (by kernel_rfl) (Rd_index_sv (i') rfl rfl ud76 sz42 (hA := hS) (hj := by omega) (hi := by omega)) rfl rfl rfl (hp _ _) ?_
        refine WJ_tk 3 (Rd_aU (k := .u8) (l := ((l).getD (i') zD).1) (Rd_loadg_sv (i := i') rfl tk42 (hA := hS) (hl := at_of (by omega))) rfl) hp ?_ rfl (by kernel_rfl) rfl rfl rfl
        refine WJ_takeP 4 rfl (by kernel_rfl) (Rd_move rfl) rfl rfl rfl (hp _ _) ?_
        refine WJ_takeP 5 rfl (by kernel_rfl) (Rd_move rfl) rfl rfl rfl (hp _ _) ?_
        refine WJ_takeP 6 rfl (by kernel_rfl) (Rd_index_sv (i') rfl rfl ud76 sz42 (hA := hS') (hj := by omega) (hi := by omega)) rfl rfl rfl (hp _ _) ?_
        refine WJ_tk 7 (Rd_aU (k := .u8) (l := ((l').getD (i') zD).1) (Rd_loadg_sv (i := i') rfl tk42 (hA := hS') (hl := at_of (by omega))) rfl) hp ?_ rfl (by kernel_rfl) rfl rfl rfl
        refine WJ_takeP 8 rfl (by kernel_rfl) (Rd_neW rfl rfl ais42) rfl rfl rfl (hp _ _) ?_
        refine WJ_done (by kernel_rfl) ?_
        refine Ps_next hK11 ?_
        refine WC_cond rfl (fun hc2 => ?_) (fun hc2 => ?_)
        · try simp only [decide_eq_true_eq, decide_eq_false_iff_not, Bool.not_eq_true', Bool.not_eq_false', Bool.not_eq_true, Bool.not_eq_false, Int.not_lt, Int.not_le, Nat.not_lt, Nat.not_le, Decidable.not_not, ne_eq] at hc2
          refine WC_sr fun K12 hK12 => ?_
          refine WL_rd (Rd_assign rfl) rfl rfl rfl ?_
          refine WL_end hK12 ?_
          refine WC_ret ?_
          first | exact hret.goE () (Rs1 rfl rfl) (bF (ne_len hc0)) | exact hret.goE () (Rs1 rfl rfl) (bF (dg_ne hc2)) | exact hret.goE () (Rs1 rfl rfl) (bT (eq_take hi.2 (by omega)))
        · try simp only [decide_eq_true_eq, decide_eq_false_iff_not, Bool.not_eq_true', Bool.not_eq_false', Bool.not_eq_true, Bool.not_eq_false, Int.not_lt, Int.not_le, Nat.not_lt, Nat.not_le, Decidable.not_not, ne_eq] at hc2
          refine WC_skip ?_
          refine Ps_next hK10 ?_
          refine WC_region ?_
          refine WL_rd (Rd_move rfl) rfl rfl rfl ?_
          refine WL_rd (Rd_addN (j := 1) rfl rfl) rfl rfl rfl ?_
          refine WL_rd (Rd_assign rfl) rfl rfl rfl ?_
          refine WL_nil ?_
          refine Ps_wk (by (try simp only [List.cons_append, List.nil_append]); repeat (first | with_reducible exact Wk.nil | refine Wk.cons (by first | rfl | (simp only [List.length_append, List.length_cons, List.length_nil, List.length_replicate, Nat.zero_add]; rfl) | (simp; done)) ?_)) (by (try simp only [List.cons_append, List.nil_append]); repeat (first | with_reducible exact Sub.refl | with_reducible exact Sub.nil | with_reducible refine Sub.cons (by repeat (first | with_reducible exact Ext.here | with_reducible apply Ext.there)) ?_ | with_reducible refine Sub.tail ?_)) (hK7 (i' + 1) (⟨by omega, take_step hi.2 (by omega) (by omega) (dg_eq hc2)⟩) (by omega))
      · try simp only [decide_eq_true_eq, decide_eq_false_iff_not, Bool.not_eq_true', Bool.not_eq_false', Bool.not_eq_true, Bool.not_eq_false, Int.not_lt, Int.not_le, Nat.not_lt, Nat.not_le, Decidable.not_not, ne_eq] at hc1
        obtain rfl : i' = l.length := by omega
        refine WC_exit ?_
        refine Ps_next hK5 ?_
        refine WC_sr fun K13 hK13 => ?_
        refine WL_rd (Rd_assign rfl) rfl rfl rfl ?_
        refine WL_end hK13 ?_
        refine WC_ret ?_
        first | exact hret.goE () (Rs1 rfl rfl) (bF (ne_len hc0)) | exact hret.goE () (Rs1 rfl rfl) (bF (dg_ne hc2)) | exact hret.goE () (Rs1 rfl rfl) (bT (eq_take hi.2 (by omega)))

theorem differ_ct {X : Asn} {v v' : Value} {a b : List Dg} {ao ao' : Option Addr} {cap cap' : Nat} (hS : Sv [X] v 32 fD a ao cap := by assumption) (hS' : Sv [X] v' 32 fD b ao' cap' := by assumption) (hl : a.length ≤ 900000000000 := by omega) : Ct Try.prog 55 [v, v'] [X] (fun _ : Unit => .tuple #[.int .i64 (((difV (difF a b)).1 : Nat) : Int), .bool (difV (difF a b)).2]) (fun _ => [X]) := by
  refine Ct_body (n := 86) Try.func55 rfl rfl rfl fun F w0 Q hret hnorm hp => ?_
  change WC _ _ _ _ _ _ _ (_ :: F)
  refine WC_sr fun K1 hK1 => ?_
  refine WL_rd (Rd_assign rfl) rfl rfl rfl ?_
  refine WL_rd (Rd_assign rfl) rfl rfl rfl ?_
  refine WL_end hK1 ?_
  refine WC_sr fun K2 hK2 => ?_
  refine WL_rd (Rd_move rfl) rfl rfl rfl ?_
  refine WL_rd (Rd_len_sv rfl rfl ud76) rfl rfl rfl ?_
  refine WL_rd (Rd_addN (j := 1) rfl rfl) rfl rfl rfl ?_
  refine WL_rd (Rd_quoN (j := 2) rfl rfl) rfl rfl rfl ?_
  refine WL_rd (Rd_assign rfl) rfl rfl rfl ?_
  refine WL_end hK2 ?_
  refine WC_seq fun K3 hK3 => ?_
  refine WC_sr fun K4 hK4 => ?_
  refine WL_rd (Rd_move rfl) rfl rfl rfl ?_
  refine WL_ac (Ac_call cf97 rfl (hs := widthL_ct (n := ((a.length + 1) / 2)))) rfl rfl rfl ?_
  rintro _ _ ⟨⟨⟩, rfl, hA⟩
  simp only [List.cons_append, List.nil_append] at hA
  replace hA := hA.symm
  subst hA
  refine WL_rd (Rd_move rfl) rfl rfl rfl ?_
  refine WL_rd (Rd_ext0 rfl) rfl rfl rfl ?_
  refine WL_rd (Rd_ext1 rfl) rfl rfl rfl ?_
  refine WL_rd (Rd_assign rfl) rfl rfl rfl ?_
  refine WL_rd (Rd_assign rfl) rfl rfl rfl ?_
  refine WL_end hK4 ?_
  refine WC_sr fun K5 hK5 => ?_
  refine WL_rd (Rd_move rfl) rfl rfl rfl ?_
  refine WL_rd (Rd_neqN (j := 0) rfl rfl) rfl rfl rfl ?_
  refine WL_rd (Rd_move rfl) rfl rfl rfl ?_
  refine WL_bool 21 rfl (fun hg6 => ?_) (fun hg6 => ?_)
  · try simp only [decide_eq_true_eq, decide_eq_false_iff_not, Bool.not_eq_true', Bool.not_eq_false', Bool.not_eq_true, Bool.not_eq_false, Int.not_lt, Int.not_le, Nat.not_lt, Nat.not_le, Decidable.not_not, ne_eq] at hg6
    have q0 := hg6
    refine WL_skip rfl rfl rfl ?_
    refine WL_skip rfl rfl rfl ?_
    refine WL_skip rfl rfl rfl ?_
    refine WL_rd (Rd_pickT rfl rfl) rfl rfl rfl ?_
    refine WL_rd (Rd_move rfl) rfl rfl rfl ?_
    refine WL_skip rfl rfl rfl ?_
    refine WL_skip rfl rfl rfl ?_
    refine WL_skip rfl rfl rfl ?_
    refine WL_skip rfl rfl rfl ?_
    refine WL_skip rfl rfl rfl ?_
    refine WL_skip rfl rfl rfl ?_
    refine WL_rd (Rd_pickT rfl rfl) rfl rfl rfl ?_
    refine WL_rd (Rd_move rfl) rfl rfl rfl ?_
    refine WL_skip rfl rfl rfl ?_
    refine WL_skip rfl rfl rfl ?_
    refine WL_skip rfl rfl rfl ?_
    refine WL_skip rfl rfl rfl ?_
    refine WL_skip rfl rfl rfl ?_
    refine WL_rd (Rd_pickT rfl rfl) rfl rfl rfl ?_
    refine WL_end hK5 ?_
    refine WC_condT rfl ?_
    have hno : difF a b = none := dif_no (fun h => by obtain ⟨h1, h2, h3, h4⟩ := h; omega)
    refine WC_sr fun K7 hK7 => ?_
    refine WL_rd (Rd_assign rfl) rfl rfl rfl ?_
    refine WL_rd (Rd_assign rfl) rfl rfl rfl ?_
    refine WL_end hK7 ?_
    refine WC_ret ?_
    first | exact hret.goE () (Rs2 rfl rfl rfl) (by rw [hno]; rfl) | exact hret.goE () (Rs2 rfl rfl rfl) (by rw [hso]; rfl)
  · try simp only [decide_eq_true_eq, decide_eq_false_iff_not, Bool.not_eq_true', Bool.not_eq_false', Bool.not_eq_true, Bool.not_eq_false, Int.not_lt, Int.not_le, Nat.not_lt, Nat.not_le, Decidable.not_not, ne_eq] at hg6
    have q0 := hg6
    have hw0 := wdE_iff.1 q0
    refine WL_rd (Rd_move rfl) rfl rfl rfl ?_
    refine WL_rd (Rd_move rfl) rfl rfl rfl ?_
    refine WL_rd (Rd_neqN rfl rfl) rfl rfl rfl ?_
    refine WL_rd (Rd_pickF rfl rfl) rfl rfl rfl ?_
    refine WL_rd (Rd_move rfl) rfl rfl rfl ?_
    refine WL_bool 26 rfl (fun hg8 => ?_) (fun hg8 => ?_)
    · try simp only [decide_eq_true_eq, decide_eq_false_iff_not, Bool.not_eq_true', Bool.not_eq_false', Bool.not_eq_true, Bool.not_eq_false, Int.not_lt, Int.not_le, Nat.not_lt, Nat.not_le, Decidable.not_not, ne_eq] at hg8
      have q1 := hg8
      refine WL_skip rfl rfl rfl ?_
      refine WL_skip rfl rfl rfl ?_
      refine WL_skip rfl rfl rfl ?_
      refine WL_skip rfl rfl rfl ?_
      refine WL_skip rfl rfl rfl ?_
      refine WL_skip rfl rfl rfl ?_
      refine WL_rd (Rd_pickT rfl rfl) rfl rfl rfl ?_
      refine WL_rd (Rd_move rfl) rfl rfl rfl ?_
      refine WL_skip rfl rfl rfl ?_
      refine WL_skip rfl rfl rfl ?_
      refine WL_skip rfl rfl rfl ?_
      refine WL_skip rfl rfl rfl ?_
      refine WL_skip rfl rfl rfl ?_
      refine WL_rd (Rd_pickT rfl rfl) rfl rfl rfl ?_
      refine WL_end hK5 ?_
      refine WC_condT rfl ?_
      have hno : difF a b = none := dif_no (fun h => by obtain ⟨h1, h2, h3, h4⟩ := h; omega)
      refine WC_sr fun K9 hK9 => ?_
      refine WL_rd (Rd_assign rfl) rfl rfl rfl ?_
      refine WL_rd (Rd_assign rfl) rfl rfl rfl ?_
      refine WL_end hK9 ?_
      refine WC_ret ?_
      first | exact hret.goE () (Rs2 rfl rfl rfl) (by rw [hno]; rfl) | exact hret.goE () (Rs2 rfl rfl rfl) (by rw [hso]; rfl)
    · try simp only [decide_eq_true_eq, decide_eq_false_iff_not, Bool.not_eq_true', Bool.not_eq_false', Bool.not_eq_true, Bool.not_eq_false, Int.not_lt, Int.not_le, Nat.not_lt, Nat.not_le, Decidable.not_not, ne_eq] at hg8
      have q1 := hg8
      refine WL_rd (Rd_move rfl) rfl rfl rfl ?_
      refine WL_rd (Rd_len_sv rfl rfl ud76) rfl rfl rfl ?_
      refine WL_rd (Rd_move rfl) rfl rfl rfl ?_
      refine WL_rd (Rd_mulN (i := 2) rfl rfl) rfl rfl rfl ?_
      refine WL_rd (Rd_subN (j := 1) rfl rfl) rfl rfl rfl ?_
      refine WL_rd (Rd_neqN rfl rfl) rfl rfl rfl ?_
      refine WL_rd (Rd_pickF rfl rfl) rfl rfl rfl ?_
      refine WL_rd (Rd_move rfl) rfl rfl rfl ?_
      refine WL_bool 34 rfl (fun hg10 => ?_) (fun hg10 => ?_)
      · try simp only [decide_eq_true_eq, decide_eq_false_iff_not, Bool.not_eq_true', Bool.not_eq_false', Bool.not_eq_true, Bool.not_eq_false, Int.not_lt, Int.not_le, Nat.not_lt, Nat.not_le, Decidable.not_not, ne_eq] at hg10
        have q2 := hg10
        refine WL_skip rfl rfl rfl ?_
        refine WL_skip rfl rfl rfl ?_
        refine WL_skip rfl rfl rfl ?_
        refine WL_skip rfl rfl rfl ?_
        refine WL_skip rfl rfl rfl ?_
        refine WL_rd (Rd_pickT rfl rfl) rfl rfl rfl ?_
        refine WL_end hK5 ?_
        refine WC_condT rfl ?_
        have hno : difF a b = none := dif_no (fun h => by obtain ⟨h1, h2, h3, h4⟩ := h; omega)
        refine WC_sr fun K11 hK11 => ?_
        refine WL_rd (Rd_assign rfl) rfl rfl rfl ?_
        refine WL_rd (Rd_assign rfl) rfl rfl rfl ?_
        refine WL_end hK11 ?_
        refine WC_ret ?_
        first | exact hret.goE () (Rs2 rfl rfl rfl) (by rw [hno]; rfl) | exact hret.goE () (Rs2 rfl rfl rfl) (by rw [hso]; rfl)
      · try simp only [decide_eq_true_eq, decide_eq_false_iff_not, Bool.not_eq_true', Bool.not_eq_false', Bool.not_eq_true, Bool.not_eq_false, Int.not_lt, Int.not_le, Nat.not_lt, Nat.not_le, Decidable.not_not, ne_eq] at hg10
        have q2 := hg10
        refine WL_rd (Rd_move rfl) rfl rfl rfl ?_
        refine WL_rd (Rd_len_sv rfl rfl ud76) rfl rfl rfl ?_
        refine WL_rd (Rd_move rfl) rfl rfl rfl ?_
        refine WL_rd (Rd_len_sv rfl rfl ud76) rfl rfl rfl ?_
        refine WL_rd (Rd_neqN rfl rfl) rfl rfl rfl ?_
        refine WL_rd (Rd_pickF rfl rfl) rfl rfl rfl ?_
        refine WL_end hK5 ?_
        refine WC_cond rfl (fun hc0 => ?_) (fun hc0 => ?_)
        · try simp only [decide_eq_true_eq, decide_eq_false_iff_not, Bool.not_eq_true', Bool.not_eq_false', Bool.not_eq_true, Bool.not_eq_false, Int.not_lt, Int.not_le, Nat.not_lt, Nat.not_le, Decidable.not_not, ne_eq] at hc0
          have hno : difF a b = none := dif_no (fun h => by obtain ⟨h1, h2, h3, h4⟩ := h; omega)
          refine WC_sr fun K12 hK12 => ?_
          refine WL_rd (Rd_assign rfl) rfl rfl rfl ?_
          refine WL_rd (Rd_assign rfl) rfl rfl rfl ?_
          refine WL_end hK12 ?_
          refine WC_ret ?_
          first | exact hret.goE () (Rs2 rfl rfl rfl) (by rw [hno]; rfl) | exact hret.goE () (Rs2 rfl rfl rfl) (by rw [hso]; rfl)
        · try simp only [decide_eq_true_eq, decide_eq_false_iff_not, Bool.not_eq_true', Bool.not_eq_false', Bool.not_eq_true, Bool.not_eq_false, Int.not_lt, Int.not_le, Nat.not_lt, Nat.not_le, Decidable.not_not, ne_eq] at hc0
          have hok : difOk a b := ⟨by omega, by omega, by omega, by omega⟩
          have hw1 := wdE_iff.1 hok.1
          refine WC_skip ?_
          refine Ps_next hK3 ?_
          refine WC_seq fun K13 hK13 => ?_
          refine WC_sr fun K14 hK14 => ?_
          refine WL_rd (Rd_assign rfl) rfl rfl rfl ?_
          refine WL_end hK14 ?_
          refine WC_block ?_
          refine WC_loopK (σ := Nat) (fun x => [(9, .int .i64 ((x : Nat) : Int))]) (fun x => []) (fun x => 1 ≤ x ∧ x ≤ ((a.length + 1) / 2) ∧ (∀ y, 1 ≤ y → y < x → dP a b y = false)) (fun x => ((a.length + 1) / 2) - x) (1) [0, 1, 6] (by repeat (first | exact Kep.nil | apply Kep.drop rfl | apply Kep.keep rfl)) (by (try dsimp only); repeat (first | with_reducible exact Gv.nil | (with_reducible apply Gv.cons; · (repeat (first | with_reducible exact Ext.here | with_reducible apply Ext.there))))) ?_ ?_ Sub.refl ?_
          · exact ⟨by omega, by omega, fun y h1 h2 => by omega⟩
          · (try dsimp only); exact (Wk.cons (by first | rfl | (simp only [List.length_append, List.length_cons, List.length_nil, List.length_replicate, Nat.zero_add]; rfl) | (simp; done)) Wk.nil)
          · rintro x ⟨hx1, hxw, hx'⟩ K15 hK15
            simp only [List.cons_append, List.nil_append]
            have hda1 := Dg_len (a.getD (x - 1) zD)
            have hdb1 := Dg_len (b.getD (x - 1) zD)
            have hda2 := Dg_len (a.getD (2 * x - 1) zD)
            have hdb2 := Dg_len (b.getD (2 * x - 1) zD)
            have hda3 := Dg_len (a.getD (2 * x) zD)
            have hdb3 := Dg_len (b.getD (2 * x) zD)
            refine WC_seq fun K16 hK16 => ?_
            refine WC_sr fun K17 hK17 => ?_
            refine WL_rd (Rd_move rfl) rfl rfl rfl ?_
            refine WL_rd (Rd_move rfl) rfl rfl rfl ?_
            refine WL_rd (Rd_lssN rfl rfl) rfl rfl rfl ?_
            refine WL_end hK17 ?_
            refine WC_cond rfl (fun hc1 => ?_) (fun hc1 => ?_)
            · try simp only [decide_eq_true_eq, decide_eq_false_iff_not, Bool.not_eq_true', Bool.not_eq_false', Bool.not_eq_true, Bool.not_eq_false, Int.not_lt, Int.not_le, Nat.not_lt, Nat.not_le, Decidable.not_not, ne_eq] at hc1
              refine WC_skip ?_
              refine Ps_next hK16 ?_
              refine WC_seq fun K18 hK18 => ?_
              refine WC_block ?_
              refine WC_seq fun K19 hK19 => ?_
              refine WC_drawA mix (fun i => ([2, 2, 2, 2, 2, 2, 2, 2, 2, 2, 2, 2, 2, 2, 2, 2, 2, 2, 2, 2, 2, 2, 2, 2, 2, 2, 2, 2, 2, 2, 2, 2, 2, 2, 2, 2, 2, 2, 2] : List Nat).getD i 0) ?_
              refine WJ_takeP 0 rfl (by kernel_rfl) (Rd_move rfl) rfl rfl rfl (hp _ _) ?_
              refine WJ_takeP 1 rfl (by kernel_rfl) (Rd_move rfl) rfl rfl rfl (hp _ _) ?_
              refine WJ_takeP 2 rfl (by kernel_rfl) (Rd_subN (j := 1) rfl rfl) rfl rfl rfl (hp _ _) ?_
              refine WJ_takeP 3 rfl (by kernel_rfl) (Rd_index_sv (x - 1) rfl rfl ud76 sz42 (hA := hS) (hj := by omega) (hi := by omega)) rfl rfl rfl (hp _ _) ?_
              refine WJ_tk 4 (Rd_aU (k := .u8) (l := ((a).getD (x - 1) zD).1) (Rd_loadg_sv (i := x - 1) rfl tk42 (hA := hS) (hl := at_of (by omega))) rfl) hp ?_ rfl (by kernel_rfl) rfl rfl rfl
              refine WJ_takeP 5 rfl (by kernel_rfl) (Rd_move rfl) rfl rfl rfl (hp _ _) ?_
              refine WJ_takeP 6 rfl (by kernel_rfl) (Rd_move rfl) rfl rfl rfl (hp _ _) ?_
              refine WJ_takeP 7 rfl (by kernel_rfl) (Rd_subN (j := 1) rfl rfl) rfl rfl rfl (hp _ _) ?_
              refine WJ_takeP 8 rfl (by kernel_rfl) (Rd_index_sv (x - 1) rfl rfl ud76 sz42 (hA := hS') (hj := by omega) (hi := by omega)) rfl rfl rfl (hp _ _) ?_
              refine WJ_tk 9 (Rd_aU (k := .u8) (l := ((b).getD (x - 1) zD).1) (Rd_loadg_sv (i := x - 1) rfl tk42 (hA := hS') (hl := at_of (by omega))) rfl) hp ?_ rfl (by kernel_rfl) rfl rfl rfl
              refine WJ_takeP 10 rfl (by kernel_rfl) (Rd_eqW rfl rfl ais42) rfl rfl rfl (hp _ _) ?_
              refine WJ_takeP 11 rfl (by kernel_rfl) (Rd_move rfl) rfl rfl rfl (hp _ _) ?_
              refine WJ_bool 57 rfl (fun hg20 => ?_) (fun hg20 => ?_)
              · try simp only [decide_eq_true_eq, decide_eq_false_iff_not, Bool.not_eq_true', Bool.not_eq_false', Bool.not_eq_true, Bool.not_eq_false, Int.not_lt, Int.not_le, Nat.not_lt, Nat.not_le, Decidable.not_not, ne_eq] at hg20
                have p0 := hg20
                refine WJ_takeP 12 rfl (by kernel_rfl) (Rd_move rfl) rfl rfl rfl (hp _ _) ?_
                refine WJ_takeP 13 rfl (by kernel_rfl) (Rd_move rfl) rfl rfl rfl (hp _ _) ?_
                refine WJ_takeP 14 rfl (by kernel_rfl) (Rd_mulN (i := 2) rfl rfl) rfl rfl rfl (hp _ _) ?_
                refine WJ_takeP 15 rfl (by kernel_rfl) (Rd_subN (j := 1) rfl rfl) rfl rfl rfl (hp _ _) ?_
                refine WJ_takeP 16 rfl (by kernel_rfl) (Rd_index_sv (2 * x - 1) rfl rfl ud76 sz42 (hA := hS) (hj := by omega) (hi := by omega)) rfl rfl rfl (hp _ _) ?_
                refine WJ_tk 17 (Rd_aU (k := .u8) (l := ((a).getD (2 * x - 1) zD).1) (Rd_loadg_sv (i := 2 * x - 1) rfl tk42 (hA := hS) (hl := at_of (by omega))) rfl) hp ?_ rfl (by kernel_rfl) rfl rfl rfl
                refine WJ_takeP 18 rfl (by kernel_rfl) (Rd_move rfl) rfl rfl rfl (hp _ _) ?_
                refine WJ_takeP 19 rfl (by kernel_rfl) (Rd_move rfl) rfl rfl rfl (hp _ _) ?_
                refine WJ_takeP 20 rfl (by kernel_rfl) (Rd_mulN (i := 2) rfl rfl) rfl rfl rfl (hp _ _) ?_
                refine WJ_takeP 21 rfl (by kernel_rfl) (Rd_subN (j := 1) rfl rfl) rfl rfl rfl (hp _ _) ?_
                refine WJ_takeP 22 rfl (by kernel_rfl) (Rd_index_sv (2 * x - 1) rfl rfl ud76 sz42 (hA := hS') (hj := by omega) (hi := by omega)) rfl rfl rfl (hp _ _) ?_
                refine WJ_tk 23 (Rd_aU (k := .u8) (l := ((b).getD (2 * x - 1) zD).1) (Rd_loadg_sv (i := 2 * x - 1) rfl tk42 (hA := hS') (hl := at_of (by omega))) rfl) hp ?_ rfl (by kernel_rfl) rfl rfl rfl
                refine WJ_takeP 24 rfl (by kernel_rfl) (Rd_neW rfl rfl ais42) rfl rfl rfl (hp _ _) ?_
                refine WJ_takeP 25 rfl (by kernel_rfl) (Rd_move rfl) rfl rfl rfl (hp _ _) ?_
                refine WJ_bool 71 rfl (fun hg21 => ?_) (fun hg21 => ?_)
                · try simp only [decide_eq_true_eq, decide_eq_false_iff_not, Bool.not_eq_true', Bool.not_eq_false', Bool.not_eq_true, Bool.not_eq_false, Int.not_lt, Int.not_le, Nat.not_lt, Nat.not_le, Decidable.not_not, ne_eq] at hg21
                  have p1 := hg21
                  have hx := dP_yes1 p0 p1
                  refine WJ_skip 26 rfl (by kernel_rfl) rfl rfl rfl (hp _ _) ?_
                  refine WJ_skip 27 rfl (by kernel_rfl) rfl rfl rfl (hp _ _) ?_
                  refine WJ_skip 28 rfl (by kernel_rfl) rfl rfl rfl (hp _ _) ?_
                  refine WJ_skip 29 rfl (by kernel_rfl) rfl rfl rfl (hp _ _) ?_
                  refine WJ_skip 30 rfl (by kernel_rfl) rfl rfl rfl (hp _ _) ?_
                  refine WJ_skip 31 rfl (by kernel_rfl) rfl rfl rfl (hp _ _) ?_
                  refine WJ_skip 32 rfl (by kernel_rfl) rfl rfl rfl (hp _ _) ?_
                  refine WJ_skip 33 rfl (by kernel_rfl) rfl rfl rfl (hp _ _) ?_
                  refine WJ_skip 34 rfl (by kernel_rfl) rfl rfl rfl (hp _ _) ?_
                  refine WJ_skip 35 rfl (by kernel_rfl) rfl rfl rfl (hp _ _) ?_
                  refine WJ_skip 36 rfl (by kernel_rfl) rfl rfl rfl (hp _ _) ?_
                  refine WJ_takeP 37 rfl (by kernel_rfl) (Rd_pickT rfl rfl) rfl rfl rfl (hp _ _) ?_
                  refine WJ_takeP 38 rfl (by kernel_rfl) (Rd_pickT rfl rfl) rfl rfl rfl (hp _ _) ?_
                  refine WJ_done (by kernel_rfl) ?_
                  refine Ps_next hK19 ?_
                  refine WC_condT rfl ?_
                  have hx2 : dP a b x = true := by first | exact hx | exact dP_yes2 p0 hc2
                  have hso := dif_some hok hx1 hc1 hx2 hx'
                  refine WC_sr fun K22 hK22 => ?_
                  refine WL_rd (Rd_move rfl) rfl rfl rfl ?_
                  refine WL_rd (Rd_assign rfl) rfl rfl rfl ?_
                  refine WL_rd (Rd_assign rfl) rfl rfl rfl ?_
                  refine WL_end hK22 ?_
                  refine WC_ret ?_
                  first | exact hret.goE () (Rs2 rfl rfl rfl) (by rw [hno]; rfl) | exact hret.goE () (Rs2 rfl rfl rfl) (by rw [hso]; rfl)
                · try simp only [decide_eq_true_eq, decide_eq_false_iff_not, Bool.not_eq_true', Bool.not_eq_false', Bool.not_eq_true, Bool.not_eq_false, Int.not_lt, Int.not_le, Nat.not_lt, Nat.not_le, Decidable.not_not, ne_eq] at hg21
                  have p1 := hg21
                  refine WJ_takeP 26 rfl (by kernel_rfl) (Rd_move rfl) rfl rfl rfl (hp _ _) ?_
                  refine WJ_takeP 27 rfl (by kernel_rfl) (Rd_move rfl) rfl rfl rfl (hp _ _) ?_
                  refine WJ_takeP 28 rfl (by kernel_rfl) (Rd_mulN (i := 2) rfl rfl) rfl rfl rfl (hp _ _) ?_
                  refine WJ_takeP 29 rfl (by kernel_rfl) (Rd_index_sv (2 * x) rfl rfl ud76 sz42 (hA := hS) (hj := by omega) (hi := by omega)) rfl rfl rfl (hp _ _) ?_
                  refine WJ_tk 30 (Rd_aU (k := .u8) (l := ((a).getD (2 * x) zD).1) (Rd_loadg_sv (i := 2 * x) rfl tk42 (hA := hS) (hl := at_of (by omega))) rfl) hp ?_ rfl (by kernel_rfl) rfl rfl rfl
                  refine WJ_takeP 31 rfl (by kernel_rfl) (Rd_move rfl) rfl rfl rfl (hp _ _) ?_
                  refine WJ_takeP 32 rfl (by kernel_rfl) (Rd_move rfl) rfl rfl rfl (hp _ _) ?_
                  refine WJ_takeP 33 rfl (by kernel_rfl) (Rd_mulN (i := 2) rfl rfl) rfl rfl rfl (hp _ _) ?_
                  refine WJ_takeP 34 rfl (by kernel_rfl) (Rd_index_sv (2 * x) rfl rfl ud76 sz42 (hA := hS') (hj := by omega) (hi := by omega)) rfl rfl rfl (hp _ _) ?_
                  refine WJ_tk 35 (Rd_aU (k := .u8) (l := ((b).getD (2 * x) zD).1) (Rd_loadg_sv (i := 2 * x) rfl tk42 (hA := hS') (hl := at_of (by omega))) rfl) hp ?_ rfl (by kernel_rfl) rfl rfl rfl
                  refine WJ_takeP 36 rfl (by kernel_rfl) (Rd_neW rfl rfl ais42) rfl rfl rfl (hp _ _) ?_
                  refine WJ_takeP 37 rfl (by kernel_rfl) (Rd_pickF rfl rfl) rfl rfl rfl (hp _ _) ?_
                  refine WJ_takeP 38 rfl (by kernel_rfl) (Rd_pickT rfl rfl) rfl rfl rfl (hp _ _) ?_
                  refine WJ_done (by kernel_rfl) ?_
                  refine Ps_next hK19 ?_
                  refine WC_cond rfl (fun hc2 => ?_) (fun hc2 => ?_)
                  · try simp only [decide_eq_true_eq, decide_eq_false_iff_not, Bool.not_eq_true', Bool.not_eq_false', Bool.not_eq_true, Bool.not_eq_false, Int.not_lt, Int.not_le, Nat.not_lt, Nat.not_le, Decidable.not_not, ne_eq] at hc2
                    have hx2 : dP a b x = true := by first | exact hx | exact dP_yes2 p0 hc2
                    have hso := dif_some hok hx1 hc1 hx2 hx'
                    refine WC_sr fun K23 hK23 => ?_
                    refine WL_rd (Rd_move rfl) rfl rfl rfl ?_
                    refine WL_rd (Rd_assign rfl) rfl rfl rfl ?_
                    refine WL_rd (Rd_assign rfl) rfl rfl rfl ?_
                    refine WL_end hK23 ?_
                    refine WC_ret ?_
                    first | exact hret.goE () (Rs2 rfl rfl rfl) (by rw [hno]; rfl) | exact hret.goE () (Rs2 rfl rfl rfl) (by rw [hso]; rfl)
                  · try simp only [decide_eq_true_eq, decide_eq_false_iff_not, Bool.not_eq_true', Bool.not_eq_false', Bool.not_eq_true, Bool.not_eq_false, Int.not_lt, Int.not_le, Nat.not_lt, Nat.not_le, Decidable.not_not, ne_eq] at hc2
                    refine WC_skip ?_
                    refine Ps_next hK18 ?_
                    refine WC_region ?_
                    refine WL_rd (Rd_move rfl) rfl rfl rfl ?_
                    refine WL_rd (Rd_addN (j := 1) rfl rfl) rfl rfl rfl ?_
                    refine WL_rd (Rd_assign rfl) rfl rfl rfl ?_
                    refine WL_nil ?_
                    refine Ps_wk (by (try simp only [List.cons_append, List.nil_append]); repeat (first | with_reducible exact Wk.nil | refine Wk.cons (by first | rfl | (simp only [List.length_append, List.length_cons, List.length_nil, List.length_replicate, Nat.zero_add]; rfl) | (simp; done)) ?_)) (by (try simp only [List.cons_append, List.nil_append]); repeat (first | with_reducible exact Sub.refl | with_reducible exact Sub.nil | with_reducible refine Sub.cons (by repeat (first | with_reducible exact Ext.here | with_reducible apply Ext.there)) ?_ | with_reducible refine Sub.tail ?_)) (hK15 (x + 1) (⟨by omega, by omega, fun y h1 h2 => by rcases Nat.lt_or_ge y x with z | z; exact hx' y h1 z; (have : y = x := by omega); subst this; first | exact hx | exact dP_no2 p1 hc2⟩) (by omega))
              · try simp only [decide_eq_true_eq, decide_eq_false_iff_not, Bool.not_eq_true', Bool.not_eq_false', Bool.not_eq_true, Bool.not_eq_false, Int.not_lt, Int.not_le, Nat.not_lt, Nat.not_le, Decidable.not_not, ne_eq] at hg20
                have p0 := hg20
                have hx := dP_no1 p0
                refine WJ_skip 12 rfl (by kernel_rfl) rfl rfl rfl (hp _ _) ?_
                refine WJ_skip 13 rfl (by kernel_rfl) rfl rfl rfl (hp _ _) ?_
                refine WJ_skip 14 rfl (by kernel_rfl) rfl rfl rfl (hp _ _) ?_
                refine WJ_skip 15 rfl (by kernel_rfl) rfl rfl rfl (hp _ _) ?_
                refine WJ_skip 16 rfl (by kernel_rfl) rfl rfl rfl (hp _ _) ?_
                refine WJ_skip 17 rfl (by kernel_rfl) rfl rfl rfl (hp _ _) ?_
                refine WJ_skip 18 rfl (by kernel_rfl) rfl rfl rfl (hp _ _) ?_
                refine WJ_skip 19 rfl (by kernel_rfl) rfl rfl rfl (hp _ _) ?_
                refine WJ_skip 20 rfl (by kernel_rfl) rfl rfl rfl (hp _ _) ?_
                refine WJ_skip 21 rfl (by kernel_rfl) rfl rfl rfl (hp _ _) ?_
                refine WJ_skip 22 rfl (by kernel_rfl) rfl rfl rfl (hp _ _) ?_
                refine WJ_skip 23 rfl (by kernel_rfl) rfl rfl rfl (hp _ _) ?_
                refine WJ_skip 24 rfl (by kernel_rfl) rfl rfl rfl (hp _ _) ?_
                refine WJ_skip 25 rfl (by kernel_rfl) rfl rfl rfl (hp _ _) ?_
                refine WJ_skip 26 rfl (by kernel_rfl) rfl rfl rfl (hp _ _) ?_
                refine WJ_skip 27 rfl (by kernel_rfl) rfl rfl rfl (hp _ _) ?_
                refine WJ_skip 28 rfl (by kernel_rfl) rfl rfl rfl (hp _ _) ?_
                refine WJ_skip 29 rfl (by kernel_rfl) rfl rfl rfl (hp _ _) ?_
                refine WJ_skip 30 rfl (by kernel_rfl) rfl rfl rfl (hp _ _) ?_
                refine WJ_skip 31 rfl (by kernel_rfl) rfl rfl rfl (hp _ _) ?_
                refine WJ_skip 32 rfl (by kernel_rfl) rfl rfl rfl (hp _ _) ?_
                refine WJ_skip 33 rfl (by kernel_rfl) rfl rfl rfl (hp _ _) ?_
                refine WJ_skip 34 rfl (by kernel_rfl) rfl rfl rfl (hp _ _) ?_
                refine WJ_skip 35 rfl (by kernel_rfl) rfl rfl rfl (hp _ _) ?_
                refine WJ_skip 36 rfl (by kernel_rfl) rfl rfl rfl (hp _ _) ?_
                refine WJ_skip 37 rfl (by kernel_rfl) rfl rfl rfl (hp _ _) ?_
                refine WJ_takeP 38 rfl (by kernel_rfl) (Rd_pickF rfl rfl) rfl rfl rfl (hp _ _) ?_
                refine WJ_done (by kernel_rfl) ?_
                refine Ps_next hK19 ?_
                refine WC_condF rfl ?_
                refine WC_skip ?_
                refine Ps_next hK18 ?_
                refine WC_region ?_
                refine WL_rd (Rd_move rfl) rfl rfl rfl ?_
                refine WL_rd (Rd_addN (j := 1) rfl rfl) rfl rfl rfl ?_
                refine WL_rd (Rd_assign rfl) rfl rfl rfl ?_
                refine WL_nil ?_
                refine Ps_wk (by (try simp only [List.cons_append, List.nil_append]); repeat (first | with_reducible exact Wk.nil | refine Wk.cons (by first | rfl | (simp only [List.length_append, List.length_cons, List.length_nil, List.length_replicate, Nat.zero_add]; rfl) | (simp; done)) ?_)) (by (try simp only [List.cons_append, List.nil_append]); repeat (first | with_reducible exact Sub.refl | with_reducible exact Sub.nil | with_reducible refine Sub.cons (by repeat (first | with_reducible exact Ext.here | with_reducible apply Ext.there)) ?_ | with_reducible refine Sub.tail ?_)) (hK15 (x + 1) (⟨by omega, by omega, fun y h1 h2 => by rcases Nat.lt_or_ge y x with z | z; exact hx' y h1 z; (have : y = x := by omega); subst this; first | exact hx | exact dP_no2 p1 hc2⟩) (by omega))
            · try simp only [decide_eq_true_eq, decide_eq_false_iff_not, Bool.not_eq_true', Bool.not_eq_false', Bool.not_eq_true, Bool.not_eq_false, Int.not_lt, Int.not_le, Nat.not_lt, Nat.not_le, Decidable.not_not, ne_eq] at hc1
              obtain rfl : x = ((a.length + 1) / 2) := by omega
              have hno : difF a b = none := dif_none hx'
              refine WC_exit ?_
              refine Ps_next hK13 ?_
              refine WC_sr fun K24 hK24 => ?_
              refine WL_rd (Rd_assign rfl) rfl rfl rfl ?_
              refine WL_rd (Rd_assign rfl) rfl rfl rfl ?_
              refine WL_end hK24 ?_
              refine WC_ret ?_
              first | exact hret.goE () (Rs2 rfl rfl rfl) (by rw [hno]; rfl) | exact hret.goE () (Rs2 rfl rfl rfl) (by rw [hso]; rfl)
end Go.Proofs.Ythkchjcodibaeaa
