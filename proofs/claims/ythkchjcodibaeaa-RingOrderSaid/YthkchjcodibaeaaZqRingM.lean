/-
  Contracts of functions that the claim reaches, or the logic and the plain laws that they rest on, or the row over them. (Conditions: none beyond the statement.)
-/
import Derived.Test.YthkchjcodibaeaaZqRH
set_option linter.all false
namespace Go.Proofs.Ythkchjcodibaeaa
open Go.RowKit Go.SL Go.ShM
set_option maxHeartbeats 1000000
set_option maxRecDepth 20000
set_option linter.all false

theorem rRank_ct {x : List B8} {n s k : Nat} (hx : x.length = 16 := by first | with_reducible assumption | omega) (h1 : 1 ≤ n := by omega) (h2 : n ≤ 32 := by omega) (hk : (ordL (ringD x) n)[k]? = some s := by assumption) : Ct Try.prog 74 [aU .u8 x, .int .i64 ((n : Nat) : Int), .int .i64 ((s : Nat) : Int)] [] (fun _ : Unit => .tuple #[.int .i64 ((k : Nat) : Int), .int .i64 0]) (fun _ => []) := by
  refine Ct_body (n := 41) Try.func74 rfl rfl rfl fun F w0 Q hret hnorm hp => ?_
  change WC _ _ _ _ _ _ _ (F)
  have hsn := ordL_mem.1 (List.mem_of_getElem? hk)
  have hol := ordL_len (ringD x) n
  have hkl := (List.getElem?_eq_some_iff.1 hk).1
  have hkd : (ordL (ringD x) n).getD k 0 = s := by rw [List.getD_eq_getElem?_getD, hk]; rfl
  have hbf : ∀ j, j < k → (ordL (ringD x) n).getD j 0 ≠ s := fun j hj => ord_before hk hj
  refine WC_sr fun K1 hK1 => ?_
  refine WL_ac (Ac_boxW (k := .u8) rfl) rfl rfl rfl ?_
  rintro _ _ ⟨b3, rfl, rfl⟩
  refine WL_rd (Rd_assign rfl) rfl rfl rfl ?_
  refine WL_rd (Rd_assign rfl) rfl rfl rfl ?_
  refine WL_end hK1 ?_
  refine WC_sr fun K2 hK2 => ?_
  refine WL_rd (Rd_loadW rfl tk120) rfl rfl rfl ?_
  refine WL_rd (Rd_move rfl) rfl rfl rfl ?_
  refine WL_ac (Ac_call cf72 rfl (hs := rOrder_ct (x := x) (n := n))) rfl rfl rfl ?_
  rintro _ _ ⟨og, rfl, hA⟩
  simp only [List.cons_append, List.nil_append] at hA
  replace hA := hA.symm
  subst hA
  refine WL_rd (Rd_move rfl) rfl rfl rfl ?_
  refine WL_rd (Rd_ext0 rfl) rfl rfl rfl ?_
  refine WL_rd (Rd_ext1 rfl) rfl rfl rfl ?_
  refine WL_rd (Rd_assign rfl) rfl rfl rfl ?_
  refine WL_rd (Rd_assign rfl) rfl rfl rfl ?_
  refine WL_end hK2 ?_
  refine WC_seq fun K3 hK3 => ?_
  refine WC_sr fun K4 hK4 => ?_
  refine WL_rd (Rd_move rfl) rfl rfl rfl ?_
  refine WL_rd (Rd_neqN (i := 0) (j := 0) rfl rfl) rfl rfl rfl ?_
  refine WL_rd (Rd_move rfl) rfl rfl rfl ?_
  refine WL_rd (Rd_move rfl) rfl rfl rfl ?_
  refine WL_rd (Rd_lssN (j := 0) rfl rfl) rfl rfl rfl ?_
  refine WL_rd (Rd_pickF rfl rfl) rfl rfl rfl ?_
  refine WL_rd (Rd_move rfl) rfl rfl rfl ?_
  refine WL_bool 23 rfl (fun hg5 => ?_) (fun hg5 => ?_)
  · try simp only [decide_eq_true_eq, decide_eq_false_iff_not, Bool.not_eq_true', Bool.not_eq_false', Bool.not_eq_true, Bool.not_eq_false, Int.not_lt, Int.not_le, Nat.not_lt, Nat.not_le, Decidable.not_not, ne_eq] at hg5
    refine WL_skip rfl rfl rfl ?_
    refine WL_skip rfl rfl rfl ?_
    refine WL_skip rfl rfl rfl ?_
    refine WL_rd (Rd_pickT rfl rfl) rfl rfl rfl ?_
    refine WL_end hK4 ?_
    refine WC_condT rfl ?_
    omega
  · try simp only [decide_eq_true_eq, decide_eq_false_iff_not, Bool.not_eq_true', Bool.not_eq_false', Bool.not_eq_true, Bool.not_eq_false, Int.not_lt, Int.not_le, Nat.not_lt, Nat.not_le, Decidable.not_not, ne_eq] at hg5
    refine WL_rd (Rd_move rfl) rfl rfl rfl ?_
    refine WL_rd (Rd_move rfl) rfl rfl rfl ?_
    refine WL_rd (Rd_geqN rfl rfl) rfl rfl rfl ?_
    refine WL_rd (Rd_pickF rfl rfl) rfl rfl rfl ?_
    refine WL_end hK4 ?_
    refine WC_cond rfl (fun hc0 => ?_) (fun hc0 => ?_)
    · try simp only [decide_eq_true_eq, decide_eq_false_iff_not, Bool.not_eq_true', Bool.not_eq_false', Bool.not_eq_true, Bool.not_eq_false, Int.not_lt, Int.not_le, Nat.not_lt, Nat.not_le, Decidable.not_not, ne_eq] at hc0
      omega
    · try simp only [decide_eq_true_eq, decide_eq_false_iff_not, Bool.not_eq_true', Bool.not_eq_false', Bool.not_eq_true, Bool.not_eq_false, Int.not_lt, Int.not_le, Nat.not_lt, Nat.not_le, Decidable.not_not, ne_eq] at hc0
      refine WC_skip ?_
      refine Ps_next hK3 ?_
      refine WC_seq fun K6 hK6 => ?_
      refine WC_sr fun K7 hK7 => ?_
      refine WL_rd (Rd_assign rfl) rfl rfl rfl ?_
      refine WL_end hK7 ?_
      refine WC_block ?_
      refine WC_loopK (σ := Nat) (fun j => [(10, .int .i64 ((j : Nat) : Int))]) (fun j => []) (fun j => j ≤ k) (fun j => k - j) (0) [2, 8] (by repeat (first | exact Kep.nil | apply Kep.drop rfl | apply Kep.keep rfl)) (by (try dsimp only); repeat (first | with_reducible exact Gv.nil | (with_reducible apply Gv.cons; · (repeat (first | with_reducible exact Ext.here | with_reducible apply Ext.there))))) ?_ ?_ Sub.refl ?_
      · exact Nat.zero_le _
      · (try dsimp only); exact (Wk.cons (by first | rfl | (simp only [List.length_append, List.length_cons, List.length_nil, List.length_replicate, Nat.zero_add]; rfl) | (simp; done)) Wk.nil)
      · rintro j hj K8 hK8
        simp only [List.cons_append, List.nil_append]
        refine WC_seq fun K9 hK9 => ?_
        refine WC_sr fun K10 hK10 => ?_
        refine WL_rd (Rd_move rfl) rfl rfl rfl ?_
        refine WL_rd (Rd_move rfl) rfl rfl rfl ?_
        refine WL_rd (Rd_len rfl rfl ud101) rfl rfl rfl ?_
        refine WL_rd (Rd_lssN rfl rfl) rfl rfl rfl ?_
        refine WL_end hK10 ?_
        refine WC_cond rfl (fun hc1 => ?_) (fun hc1 => ?_)
        · try simp only [decide_eq_true_eq, decide_eq_false_iff_not, Bool.not_eq_true', Bool.not_eq_false', Bool.not_eq_true, Bool.not_eq_false, Int.not_lt, Int.not_le, Nat.not_lt, Nat.not_le, Decidable.not_not, ne_eq] at hc1
          refine WC_skip ?_
          refine Ps_next hK9 ?_
          refine WC_seq fun K11 hK11 => ?_
          refine WC_block ?_
          refine WC_sr fun K12 hK12 => ?_
          refine WL_rd (Rd_move rfl) rfl rfl rfl ?_
          refine WL_rd (Rd_move rfl) rfl rfl rfl ?_
          refine WL_rd (Rd_index j rfl rfl ud101 sz3 (hi := by omega)) rfl rfl rfl ?_
          refine WL_rd (Rd_load_arr (i := j) (j := 0) rfl tk3 (hl := at_N (by omega))) rfl rfl rfl ?_
          refine WL_rd (Rd_move rfl) rfl rfl rfl ?_
          refine WL_rd (Rd_eqlN rfl rfl) rfl rfl rfl ?_
          refine WL_end hK12 ?_
          refine WC_cond rfl (fun hc2 => ?_) (fun hc2 => ?_)
          · try simp only [decide_eq_true_eq, decide_eq_false_iff_not, Bool.not_eq_true', Bool.not_eq_false', Bool.not_eq_true, Bool.not_eq_false, Int.not_lt, Int.not_le, Nat.not_lt, Nat.not_le, Decidable.not_not, ne_eq] at hc2
            refine WC_sr fun K13 hK13 => ?_
            refine WL_rd (Rd_move rfl) rfl rfl rfl ?_
            refine WL_rd (Rd_assign rfl) rfl rfl rfl ?_
            refine WL_rd (Rd_assign rfl) rfl rfl rfl ?_
            refine WL_end hK13 ?_
            refine WC_ret ?_
            have e : j = k := by (rcases Nat.lt_or_ge j k with q | q; exact absurd hc2 (hbf j q); omega)
            subst e
            exact hret.go () (Rs2 rfl rfl rfl)
          · try simp only [decide_eq_true_eq, decide_eq_false_iff_not, Bool.not_eq_true', Bool.not_eq_false', Bool.not_eq_true, Bool.not_eq_false, Int.not_lt, Int.not_le, Nat.not_lt, Nat.not_le, Decidable.not_not, ne_eq] at hc2
            refine WC_skip ?_
            refine Ps_next hK11 ?_
            refine WC_region ?_
            refine WL_rd (Rd_move rfl) rfl rfl rfl ?_
            refine WL_rd (Rd_addN (j := 1) rfl rfl) rfl rfl rfl ?_
            refine WL_rd (Rd_assign rfl) rfl rfl rfl ?_
            refine WL_nil ?_
            refine Ps_wk (by (try simp only [List.cons_append, List.nil_append]); repeat (first | with_reducible exact Wk.nil | refine Wk.cons (by first | rfl | (simp only [List.length_append, List.length_cons, List.length_nil, List.length_replicate, Nat.zero_add]; rfl) | (simp; done)) ?_)) (by (try simp only [List.cons_append, List.nil_append]); repeat (first | with_reducible exact Sub.refl | with_reducible exact Sub.nil | with_reducible refine Sub.cons (by repeat (first | with_reducible exact Ext.here | with_reducible apply Ext.there)) ?_ | with_reducible refine Sub.tail ?_)) (hK8 (j + 1) (by rcases Nat.lt_or_ge j k with q | q; omega; (have e : j = k := by omega); subst e; exact absurd hkd hc2) (by rcases Nat.lt_or_ge j k with q | q; omega; (have e : j = k := by omega); subst e; exact absurd hkd hc2))
        · try simp only [decide_eq_true_eq, decide_eq_false_iff_not, Bool.not_eq_true', Bool.not_eq_false', Bool.not_eq_true, Bool.not_eq_false, Int.not_lt, Int.not_le, Nat.not_lt, Nat.not_le, Decidable.not_not, ne_eq] at hc1
          omega

theorem rRankB_ct {x : List B8} {n : Nat} {s : Int} (hx : x.length = 16 := by first | with_reducible assumption | omega) (h1 : 1 ≤ n := by omega) (h2 : n ≤ 32 := by omega) (hs : s < 0 ∨ (n : Int) ≤ s := by omega) : Ct Try.prog 74 [aU .u8 x, .int .i64 ((n : Nat) : Int), .int .i64 s] [] (fun _ : Unit => .tuple #[.int .i64 0, .int .i64 2]) (fun _ => []) := by
  refine Ct_body (n := 41) Try.func74 rfl rfl rfl fun F w0 Q hret hnorm hp => ?_
  change WC _ _ _ _ _ _ _ (F)
  refine WC_sr fun K1 hK1 => ?_
  refine WL_ac (Ac_boxW (k := .u8) rfl) rfl rfl rfl ?_
  rintro _ _ ⟨b3, rfl, rfl⟩
  refine WL_rd (Rd_assign rfl) rfl rfl rfl ?_
  refine WL_rd (Rd_assign rfl) rfl rfl rfl ?_
  refine WL_end hK1 ?_
  refine WC_sr fun K2 hK2 => ?_
  refine WL_rd (Rd_loadW rfl tk120) rfl rfl rfl ?_
  refine WL_rd (Rd_move rfl) rfl rfl rfl ?_
  refine WL_ac (Ac_call cf72 rfl (hs := rOrder_ct (x := x) (n := n))) rfl rfl rfl ?_
  rintro _ _ ⟨og, rfl, hA⟩
  simp only [List.cons_append, List.nil_append] at hA
  replace hA := hA.symm
  subst hA
  refine WL_rd (Rd_move rfl) rfl rfl rfl ?_
  refine WL_rd (Rd_ext0 rfl) rfl rfl rfl ?_
  refine WL_rd (Rd_ext1 rfl) rfl rfl rfl ?_
  refine WL_rd (Rd_assign rfl) rfl rfl rfl ?_
  refine WL_rd (Rd_assign rfl) rfl rfl rfl ?_
  refine WL_end hK2 ?_
  refine WC_seq fun K3 hK3 => ?_
  refine WC_sr fun K4 hK4 => ?_
  refine WL_rd (Rd_move rfl) rfl rfl rfl ?_
  refine WL_rd (Rd_neqN (i := 0) (j := 0) rfl rfl) rfl rfl rfl ?_
  refine WL_rd (Rd_move rfl) rfl rfl rfl ?_
  refine WL_rd (Rd_move rfl) rfl rfl rfl ?_
  refine WL_rd (Rd_lss rfl rfl) rfl rfl rfl ?_
  refine WL_rd (Rd_pickF rfl rfl) rfl rfl rfl ?_
  refine WL_rd (Rd_move rfl) rfl rfl rfl ?_
  refine WL_bool 23 rfl (fun hg5 => ?_) (fun hg5 => ?_)
  · try simp only [decide_eq_true_eq, decide_eq_false_iff_not, Bool.not_eq_true', Bool.not_eq_false', Bool.not_eq_true, Bool.not_eq_false, Int.not_lt, Int.not_le, Nat.not_lt, Nat.not_le, Decidable.not_not, ne_eq] at hg5
    refine WL_skip rfl rfl rfl ?_
    refine WL_skip rfl rfl rfl ?_
    refine WL_skip rfl rfl rfl ?_
    refine WL_rd (Rd_pickT rfl rfl) rfl rfl rfl ?_
    refine WL_end hK4 ?_
    refine WC_condT rfl ?_
    refine WC_sr fun K6 hK6 => ?_
    refine WL_rd (Rd_assign rfl) rfl rfl rfl ?_
    refine WL_rd (Rd_assign rfl) rfl rfl rfl ?_
    refine WL_end hK6 ?_
    refine WC_ret ?_
    exact hret.go () (Rs2 rfl rfl rfl)
  · try simp only [decide_eq_true_eq, decide_eq_false_iff_not, Bool.not_eq_true', Bool.not_eq_false', Bool.not_eq_true, Bool.not_eq_false, Int.not_lt, Int.not_le, Nat.not_lt, Nat.not_le, Decidable.not_not, ne_eq] at hg5
    refine WL_rd (Rd_move rfl) rfl rfl rfl ?_
    refine WL_rd (Rd_move rfl) rfl rfl rfl ?_
    refine WL_rd (Rd_geq rfl rfl) rfl rfl rfl ?_
    refine WL_rd (Rd_pickF rfl rfl) rfl rfl rfl ?_
    refine WL_end hK4 ?_
    refine WC_cond rfl (fun hc0 => ?_) (fun hc0 => ?_)
    · try simp only [decide_eq_true_eq, decide_eq_false_iff_not, Bool.not_eq_true', Bool.not_eq_false', Bool.not_eq_true, Bool.not_eq_false, Int.not_lt, Int.not_le, Nat.not_lt, Nat.not_le, Decidable.not_not, ne_eq] at hc0
      refine WC_sr fun K7 hK7 => ?_
      refine WL_rd (Rd_assign rfl) rfl rfl rfl ?_
      refine WL_rd (Rd_assign rfl) rfl rfl rfl ?_
      refine WL_end hK7 ?_
      refine WC_ret ?_
      exact hret.go () (Rs2 rfl rfl rfl)
    · try simp only [decide_eq_true_eq, decide_eq_false_iff_not, Bool.not_eq_true', Bool.not_eq_false', Bool.not_eq_true, Bool.not_eq_false, Int.not_lt, Int.not_le, Nat.not_lt, Nat.not_le, Decidable.not_not, ne_eq] at hc0
      omega

theorem rRankA_ct {x : List B8} {n s : Int} (hx : x.length = 16 := by first | with_reducible assumption | omega) (hb : n < 1 ∨ 32 < n) : Ct Try.prog 74 [aU .u8 x, .int .i64 n, .int .i64 s] [] (fun _ : Unit => .tuple #[.int .i64 0, .int .i64 2]) (fun _ => []) := by
  refine Ct_body (n := 41) Try.func74 rfl rfl rfl fun F w0 Q hret hnorm hp => ?_
  change WC _ _ _ _ _ _ _ (F)
  refine WC_sr fun K1 hK1 => ?_
  refine WL_ac (Ac_boxW (k := .u8) rfl) rfl rfl rfl ?_
  rintro _ _ ⟨b3, rfl, rfl⟩
  refine WL_rd (Rd_assign rfl) rfl rfl rfl ?_
  refine WL_rd (Rd_assign rfl) rfl rfl rfl ?_
  refine WL_end hK1 ?_
  refine WC_sr fun K2 hK2 => ?_
  refine WL_rd (Rd_loadW rfl tk120) rfl rfl rfl ?_
  refine WL_rd (Rd_move rfl) rfl rfl rfl ?_
  refine WL_ac (Ac_call cf72 rfl (hs := rOrderN_ct (x := x) (n := n) (hb := hb))) rfl rfl rfl ?_
  rintro _ _ ⟨⟨⟩, rfl, hA⟩
  simp only [List.cons_append, List.nil_append] at hA
  replace hA := hA.symm
  subst hA
  refine WL_rd (Rd_move rfl) rfl rfl rfl ?_
  refine WL_rd (Rd_ext0 rfl) rfl rfl rfl ?_
  refine WL_rd (Rd_ext1 rfl) rfl rfl rfl ?_
  refine WL_rd (Rd_assign rfl) rfl rfl rfl ?_
  refine WL_rd (Rd_assign rfl) rfl rfl rfl ?_
  refine WL_end hK2 ?_
  refine WC_seq fun K3 hK3 => ?_
  refine WC_sr fun K4 hK4 => ?_
  refine WL_rd (Rd_move rfl) rfl rfl rfl ?_
  refine WL_rd (Rd_neqN (i := 2) (j := 0) rfl rfl) rfl rfl rfl ?_
  refine WL_rd (Rd_move rfl) rfl rfl rfl ?_
  refine WL_skip rfl rfl rfl ?_
  refine WL_skip rfl rfl rfl ?_
  refine WL_rd (Rd_pickT rfl rfl) rfl rfl rfl ?_
  refine WL_rd (Rd_move rfl) rfl rfl rfl ?_
  refine WL_skip rfl rfl rfl ?_
  refine WL_skip rfl rfl rfl ?_
  refine WL_skip rfl rfl rfl ?_
  refine WL_rd (Rd_pickT rfl rfl) rfl rfl rfl ?_
  refine WL_end hK4 ?_
  refine WC_condT rfl ?_
  refine WC_sr fun K5 hK5 => ?_
  refine WL_rd (Rd_assign rfl) rfl rfl rfl ?_
  refine WL_rd (Rd_assign rfl) rfl rfl rfl ?_
  refine WL_end hK5 ?_
  refine WC_ret ?_
  exact hret.go () (Rs2 rfl rfl rfl)
end Go.Proofs.Ythkchjcodibaeaa
