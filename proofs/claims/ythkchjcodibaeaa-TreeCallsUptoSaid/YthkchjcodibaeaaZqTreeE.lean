/-
  Contracts of functions that the claim reaches, or the logic and the plain laws that they rest on, or the row over them. (Conditions: none beyond the statement.)
-/
import Derived.Test.YthkchjcodibaeaaZqTreeD
import Derived.Test.YthkchjcodibaeaaLibR
import Derived.Test.YthkchjcodibaeaaTrChain
set_option linter.all false
namespace Go.Proofs.Ythkchjcodibaeaa
open Go.RowKit Go.SL Go.ShM
set_option maxHeartbeats 1000000
set_option maxRecDepth 20000
set_option linter.all false
theorem cf111 : cfn Try.prog 111 = true := by kernel_rfl
theorem cf112 : cfn Try.prog 112 = true := by kernel_rfl
theorem cf161 : cfn Try.prog 161 = true := by kernel_rfl
theorem el3 : el Try.prog 3 = some (1, 8) := by kernel_rfl
theorem sz101 : sz Try.prog 101 = some 1 := by kernel_rfl
theorem tk101 : tk Try.prog 101 = some none := by kernel_rfl
theorem ud101 : Try.prog.underlying 101 = some (.slice 3) := by kernel_rfl
theorem zr3 : zr Try.prog 3 = some [.int .i64 0] := by kernel_rfl
theorem zr101 : zr Try.prog 101 = some [.slice none 0 0] := by kernel_rfl
theorem nodeT_ct {n l : Int}  : Ct Try.prog 111 [.int .i64 n, .int .i64 l] [] (fun _ : Unit => .tuple #[.int .i64 (((ndM n l) : Nat) : Int), .int .i64 (((ndE n l) : Nat) : Int)]) (fun _ => []) := by
  refine Ct_body (n := 28) Try.func111 rfl rfl rfl fun F w0 Q hret hnorm hp => ?_
  change WC _ _ _ _ _ _ _ (F)
  refine WC_sr fun K1 hK1 => ?_
  refine WL_rd (Rd_assign rfl) rfl rfl rfl ?_
  refine WL_rd (Rd_assign rfl) rfl rfl rfl ?_
  refine WL_end hK1 ?_
  refine WC_sr fun K2 hK2 => ?_
  refine WL_rd (Rd_move rfl) rfl rfl rfl ?_
  refine WL_ac (Ac_call cf97 rfl (hs := width_ct (n := n))) rfl rfl rfl ?_
  rintro _ _ ⟨⟨⟩, rfl, hA⟩
  simp only [List.cons_append, List.nil_append] at hA
  replace hA := hA.symm
  subst hA
  refine WL_rd (Rd_move rfl) rfl rfl rfl ?_
  refine WL_rd (Rd_ext0 rfl) rfl rfl rfl ?_
  refine WL_rd (Rd_ext1 rfl) rfl rfl rfl ?_
  refine WL_rd (Rd_assign rfl) rfl rfl rfl ?_
  refine WL_rd (Rd_assign rfl) rfl rfl rfl ?_
  refine WL_end hK2 ?_
  refine WC_seq fun K3 hK3 => ?_
  refine WC_block ?_
  refine WC_sr fun K4 hK4 => ?_
  refine WL_rd (Rd_move rfl) rfl rfl rfl ?_
  refine WL_rd (Rd_neqN (j := 0) rfl rfl) rfl rfl rfl ?_
  refine WL_rd (Rd_assign rfl) rfl rfl rfl ?_
  refine WL_end hK4 ?_
  refine WC_cond rfl (fun hc0 => ?_) (fun hc0 => ?_)
  · try simp only [decide_eq_true_eq, decide_eq_false_iff_not, Bool.not_eq_true', Bool.not_eq_false', Bool.not_eq_true, Bool.not_eq_false, Int.not_lt, Int.not_le, Nat.not_lt, Nat.not_le, Decidable.not_not, ne_eq] at hc0
    obtain ⟨e1, e2⟩ := nd_w (l := l) hc0
    rw [e1, e2] at hret
    refine WC_sr fun K5 hK5 => ?_
    refine WL_rd (Rd_move rfl) rfl rfl rfl ?_
    refine WL_rd (Rd_assign rfl) rfl rfl rfl ?_
    refine WL_rd (Rd_assign rfl) rfl rfl rfl ?_
    refine WL_end hK5 ?_
    refine WC_ret ?_
    exact hret.go () (Rs2 rfl rfl rfl)
  · try simp only [decide_eq_true_eq, decide_eq_false_iff_not, Bool.not_eq_true', Bool.not_eq_false', Bool.not_eq_true, Bool.not_eq_false, Int.not_lt, Int.not_le, Nat.not_lt, Nat.not_le, Decidable.not_not, ne_eq] at hc0
    have hw0 := wdE_iff.1 hc0
    refine WC_sr fun K6 hK6 => ?_
    refine WL_rd (Rd_move rfl) rfl rfl rfl ?_
    refine WL_rd (Rd_lss rfl rfl) rfl rfl rfl ?_
    refine WL_rd (Rd_move rfl) rfl rfl rfl ?_
    refine WL_bool 20 rfl (fun hg7 => ?_) (fun hg7 => ?_)
    · try simp only [decide_eq_true_eq, decide_eq_false_iff_not, Bool.not_eq_true', Bool.not_eq_false', Bool.not_eq_true, Bool.not_eq_false, Int.not_lt, Int.not_le, Nat.not_lt, Nat.not_le, Decidable.not_not, ne_eq] at hg7
      have q0 := hg7
      refine WL_skip rfl rfl rfl ?_
      refine WL_skip rfl rfl rfl ?_
      refine WL_skip rfl rfl rfl ?_
      refine WL_rd (Rd_pickT rfl rfl) rfl rfl rfl ?_
      refine WL_rd (Rd_assign rfl) rfl rfl rfl ?_
      refine WL_end hK6 ?_
      refine WC_condT rfl ?_
      obtain ⟨e1, e2⟩ := nd_l (n := n) (l := l) hc0 (by omega)
      rw [e1, e2] at hret
      refine WC_sr fun K8 hK8 => ?_
      refine WL_rd (Rd_assign rfl) rfl rfl rfl ?_
      refine WL_rd (Rd_assign rfl) rfl rfl rfl ?_
      refine WL_end hK8 ?_
      refine WC_ret ?_
      exact hret.go () (Rs2 rfl rfl rfl)
    · try simp only [decide_eq_true_eq, decide_eq_false_iff_not, Bool.not_eq_true', Bool.not_eq_false', Bool.not_eq_true, Bool.not_eq_false, Int.not_lt, Int.not_le, Nat.not_lt, Nat.not_le, Decidable.not_not, ne_eq] at hg7
      have q0 := hg7
      refine WL_rd (Rd_move rfl) rfl rfl rfl ?_
      refine WL_rd (Rd_move rfl) rfl rfl rfl ?_
      refine WL_rd (Rd_geq rfl rfl) rfl rfl rfl ?_
      refine WL_rd (Rd_pickF rfl rfl) rfl rfl rfl ?_
      refine WL_rd (Rd_assign rfl) rfl rfl rfl ?_
      refine WL_end hK6 ?_
      refine WC_cond rfl (fun hc1 => ?_) (fun hc1 => ?_)
      · try simp only [decide_eq_true_eq, decide_eq_false_iff_not, Bool.not_eq_true', Bool.not_eq_false', Bool.not_eq_true, Bool.not_eq_false, Int.not_lt, Int.not_le, Nat.not_lt, Nat.not_le, Decidable.not_not, ne_eq] at hc1
        obtain ⟨e1, e2⟩ := nd_l (n := n) (l := l) hc0 (by omega)
        rw [e1, e2] at hret
        refine WC_sr fun K9 hK9 => ?_
        refine WL_rd (Rd_assign rfl) rfl rfl rfl ?_
        refine WL_rd (Rd_assign rfl) rfl rfl rfl ?_
        refine WL_end hK9 ?_
        refine WC_ret ?_
        exact hret.go () (Rs2 rfl rfl rfl)
      · try simp only [decide_eq_true_eq, decide_eq_false_iff_not, Bool.not_eq_true', Bool.not_eq_false', Bool.not_eq_true, Bool.not_eq_false, Int.not_lt, Int.not_le, Nat.not_lt, Nat.not_le, Decidable.not_not, ne_eq] at hc1
        obtain ⟨e1, e2⟩ := nd_ok (n := n) (l := l) hc0 (by omega) (by omega)
        rw [e1, e2] at hret
        have hwo := wd_ok (n := n.toNat) (by omega) (by omega)
        refine WC_skip ?_
        refine Ps_next hK3 ?_
        refine WC_sr fun K10 hK10 => ?_
        refine WL_rd (Rd_move rfl) rfl rfl rfl ?_
        refine WL_rd (Rd_move rfl) rfl rfl rfl ?_
        refine WL_rd (Rd_add' (r := ((wdM n.toNat + l.toNat : Nat) : Int)) rfl rfl (wr64 (by omega) (by omega) (by omega))) rfl rfl rfl ?_
        refine WL_rd (Rd_assign rfl) rfl rfl rfl ?_
        refine WL_rd (Rd_assign rfl) rfl rfl rfl ?_
        refine WL_end hK10 ?_
        refine WC_ret ?_
        exact hret.go () (Rs2 rfl rfl rfl)

theorem up1_ct {l c m : Nat} {X : Nat → Asn} {J : Asn} (hy : ∀ i : Nat, 1 ≤ i → i ≤ 1024 → Yd Try.prog l [.int .i64 ((i : Nat) : Int)] [X i] (fun b : Bool => .bool b) (fun b => [bif b then X (i / 2) else J])) (hm : m ≤ 1024) : Ct Try.prog 161 [yv l, .pointer (some ⟨c, 0, none⟩)] [cl c 3 [.int .i64 ((m : Nat) : Int)], X m] (fun b : Bool => .tuple #[]) (fun b => [cl c 3 [.int .i64 ((m : Nat) : Int)], bif b then X 0 else J]) := by
  refine Ct_body (n := 13) Try.func161 rfl rfl rfl fun F w0 Q hret hnorm hp => ?_
  change WC _ _ _ _ _ _ _ (_ :: _ :: F)
  refine WC_sr fun K1 hK1 => ?_
  refine WL_rd (Rd_load rfl tk3) rfl rfl rfl ?_
  refine WL_rd (Rd_assign rfl) rfl rfl rfl ?_
  refine WL_end hK1 ?_
  refine WC_block ?_
  refine WC_loopK (σ := Nat) (fun i' => [(3, .int .i64 ((i' : Nat) : Int))]) (fun i' => [X i']) (fun i' => i' ≤ 1024) (fun i' => i') (m) [0] (by repeat (first | exact Kep.nil | apply Kep.drop rfl | apply Kep.keep rfl)) (by (try dsimp only); repeat (first | with_reducible exact Gv.nil | (with_reducible apply Gv.cons; · (repeat (first | with_reducible exact Ext.here | with_reducible apply Ext.there))))) ?_ ?_ Sub.refl ?_
  · exact hm
  · (try dsimp only); exact (Wk.cons (by first | rfl | (simp only [List.length_append, List.length_cons, List.length_nil, List.length_replicate, Nat.zero_add]; rfl) | (simp; done)) Wk.nil)
  · rintro i' hi K2 hK2
    simp only [List.cons_append, List.nil_append]
    refine WC_seq fun K3 hK3 => ?_
    refine WC_sr fun K4 hK4 => ?_
    refine WL_rd (Rd_move rfl) rfl rfl rfl ?_
    refine WL_rd (Rd_geqN (j := 1) rfl rfl) rfl rfl rfl ?_
    refine WL_end hK4 ?_
    refine WC_cond rfl (fun hc0 => ?_) (fun hc0 => ?_)
    · try simp only [decide_eq_true_eq, decide_eq_false_iff_not, Bool.not_eq_true', Bool.not_eq_false', Bool.not_eq_true, Bool.not_eq_false, Int.not_lt, Int.not_le, Nat.not_lt, Nat.not_le, Decidable.not_not, ne_eq] at hc0
      refine WC_skip ?_
      refine Ps_next hK3 ?_
      refine WC_seq fun K5 hK5 => ?_
      refine WC_block ?_
      refine WC_sr fun K6 hK6 => ?_
      refine WL_rd (Rd_move rfl) rfl rfl rfl ?_
      refine WL_rd (Rd_move rfl) rfl rfl rfl ?_
      refine WL_ac (Ac_yield rfl rfl (hy i' (by omega) hi)) rfl rfl rfl ?_
      rintro _ _ ⟨b', rfl, hA⟩
      simp only [List.cons_append, List.nil_append] at hA
      replace hA := hA.symm
      subst hA
      refine WL_rd (Rd_not rfl) rfl rfl rfl ?_
      refine WL_end hK6 ?_
      refine WC_cond rfl (fun hc1 => ?_) (fun hc1 => ?_)
      · try simp only [decide_eq_true_eq, decide_eq_false_iff_not, Bool.not_eq_true', Bool.not_eq_false', Bool.not_eq_true, Bool.not_eq_false, Int.not_lt, Int.not_le, Nat.not_lt, Nat.not_le, Decidable.not_not, ne_eq] at hc1
        obtain rfl : b' = false := by revert hc1; cases b' <;> simp
        simp only [cond_false]
        have hstop : True := trivial
        refine WC_ret ?_
        first | (have := hstop; exact hret.go false (Rs0 rfl) (by simp only [List.cons_append, List.nil_append, cond_false]; repeat (first | with_reducible exact Sub.refl | with_reducible exact Sub.nil | with_reducible refine Sub.cons (by repeat (first | with_reducible exact Ext.here | with_reducible apply Ext.there)) ?_ | with_reducible refine Sub.tail ?_))) | exact hret.go true (Rs0 rfl) (by simp only [List.cons_append, List.nil_append, cond_true]; repeat (first | with_reducible exact Sub.refl | with_reducible exact Sub.nil | with_reducible refine Sub.cons (by repeat (first | with_reducible exact Ext.here | with_reducible apply Ext.there)) ?_ | with_reducible refine Sub.tail ?_))
      · try simp only [decide_eq_true_eq, decide_eq_false_iff_not, Bool.not_eq_true', Bool.not_eq_false', Bool.not_eq_true, Bool.not_eq_false, Int.not_lt, Int.not_le, Nat.not_lt, Nat.not_le, Decidable.not_not, ne_eq] at hc1
        obtain rfl : b' = true := by revert hc1; cases b' <;> simp
        simp only [cond_true]
        refine WC_skip ?_
        refine Ps_next hK5 ?_
        refine WC_region ?_
        refine WL_rd (Rd_move rfl) rfl rfl rfl ?_
        refine WL_rd (Rd_quoN (j := 2) rfl rfl) rfl rfl rfl ?_
        refine WL_rd (Rd_assign rfl) rfl rfl rfl ?_
        refine WL_nil ?_
        refine Ps_wk (by (try simp only [List.cons_append, List.nil_append]); repeat (first | with_reducible exact Wk.nil | refine Wk.cons (by first | rfl | (simp only [List.length_append, List.length_cons, List.length_nil, List.length_replicate, Nat.zero_add]; rfl) | (simp; done)) ?_)) (by (try simp only [List.cons_append, List.nil_append]); repeat (first | with_reducible exact Sub.refl | with_reducible exact Sub.nil | with_reducible refine Sub.cons (by repeat (first | with_reducible exact Ext.here | with_reducible apply Ext.there)) ?_ | with_reducible refine Sub.tail ?_)) (hK2 (i' / 2) (by omega) (by omega))
    · try simp only [decide_eq_true_eq, decide_eq_false_iff_not, Bool.not_eq_true', Bool.not_eq_false', Bool.not_eq_true, Bool.not_eq_false, Int.not_lt, Int.not_le, Nat.not_lt, Nat.not_le, Decidable.not_not, ne_eq] at hc0
      obtain rfl : i' = 0 := by omega
      refine WC_exit ?_
      first | (have := hstop; exact hnorm.go false (Rs0 rfl) (by simp only [List.cons_append, List.nil_append, cond_false]; repeat (first | with_reducible exact Sub.refl | with_reducible exact Sub.nil | with_reducible refine Sub.cons (by repeat (first | with_reducible exact Ext.here | with_reducible apply Ext.there)) ?_ | with_reducible refine Sub.tail ?_))) | exact hnorm.go true (Rs0 rfl) (by simp only [List.cons_append, List.nil_append, cond_true]; repeat (first | with_reducible exact Sub.refl | with_reducible exact Sub.nil | with_reducible refine Sub.cons (by repeat (first | with_reducible exact Ext.here | with_reducible apply Ext.there)) ?_ | with_reducible refine Sub.tail ?_))

theorem up_ct {n l : Int}  : Ct Try.prog 112 [.int .i64 n, .int .i64 l] [] (fun g : Nat => .func (.func 161) #[] #[.pointer (some ⟨g, 0, none⟩)]) (fun g => [cl g 3 [.int .i64 (((ndM n l) : Nat) : Int)]]) := by
  refine Ct_body (n := 14) Try.func112 rfl rfl rfl fun F w0 Q hret hnorm hp => ?_
  change WC _ _ _ _ _ _ _ (F)
  refine WC_sr fun K1 hK1 => ?_
  refine WL_rd (Rd_assign rfl) rfl rfl rfl ?_
  refine WL_end hK1 ?_
  refine WC_sr fun K2 hK2 => ?_
  refine WL_rd (Rd_move rfl) rfl rfl rfl ?_
  refine WL_rd (Rd_move rfl) rfl rfl rfl ?_
  refine WL_ac (Ac_call cf111 rfl (hs := nodeT_ct (n := n) (l := l))) rfl rfl rfl ?_
  rintro _ _ ⟨⟨⟩, rfl, hA⟩
  simp only [List.cons_append, List.nil_append] at hA
  replace hA := hA.symm
  subst hA
  refine WL_rd (Rd_move rfl) rfl rfl rfl ?_
  refine WL_rd (Rd_ext0 rfl) rfl rfl rfl ?_
  refine WL_rd (Rd_ext1 rfl) rfl rfl rfl ?_
  refine WL_ac (Ac_alloc zr3) rfl rfl rfl ?_
  rintro _ _ ⟨b5, rfl, rfl⟩
  refine WL_ac0 (Ac_store1 rfl rfl sz3) rfl rfl ?_
  rintro _ _ rfl
  refine WL_rd (Rd_assign rfl) rfl rfl rfl ?_
  refine WL_end hK2 ?_
  refine WC_sr fun K3 hK3 => ?_
  refine WL_rd (Rd_makeFunc rfl rfl) rfl rfl rfl ?_
  refine WL_rd (Rd_assign rfl) rfl rfl rfl ?_
  refine WL_end hK3 ?_
  refine WC_ret ?_
  exact hret.go b5 (Rs1 rfl rfl)

theorem chain_ct {n l : Int}  : Ct Try.prog 64 [.int .i64 n, .int .i64 l] [] (fun g : Option Nat × Nat => .tuple #[sl g.1 (chL (ndM n l)).length g.2, .int .i64 (((ndE n l) : Nat) : Int)]) (fun g => [arr g.1 g.2 1 3 eN (chL (ndM n l))]) := by
  refine Ct_body (n := 31) Try.func64 rfl rfl rfl fun F w0 Q hret hnorm hp => ?_
  change WC _ _ _ _ _ _ _ (F)
  have hnl := nd_le n l
  refine WC_sr fun K1 hK1 => ?_
  refine WL_rd (Rd_assign (v := sl none 0 0) rfl) rfl rfl rfl ?_
  refine WL_rd (Rd_assign rfl) rfl rfl rfl ?_
  refine WL_end hK1 ?_
  refine WC_seq fun K2 hK2 => ?_
  refine WC_sr fun K3 hK3 => ?_
  refine WL_rd (Rd_move rfl) rfl rfl rfl ?_
  refine WL_rd (Rd_move rfl) rfl rfl rfl ?_
  refine WL_ac (Ac_call cf111 rfl (hs := nodeT_ct (n := n) (l := l))) rfl rfl rfl ?_
  rintro _ _ ⟨⟨⟩, rfl, hA⟩
  simp only [List.cons_append, List.nil_append] at hA
  replace hA := hA.symm
  subst hA
  refine WL_rd (Rd_move rfl) rfl rfl rfl ?_
  refine WL_rd (Rd_ext0 rfl) rfl rfl rfl ?_
  refine WL_rd (Rd_ext1 rfl) rfl rfl rfl ?_
  refine WL_rd (Rd_assign rfl) rfl rfl rfl ?_
  refine WL_rd (Rd_assign rfl) rfl rfl rfl ?_
  refine WL_end hK3 ?_
  refine WC_sr fun K4 hK4 => ?_
  refine WL_rd (Rd_move rfl) rfl rfl rfl ?_
  refine WL_rd (Rd_neqN (j := 0) rfl rfl) rfl rfl rfl ?_
  refine WL_end hK4 ?_
  refine WC_cond rfl (fun hc0 => ?_) (fun hc0 => ?_)
  · try simp only [decide_eq_true_eq, decide_eq_false_iff_not, Bool.not_eq_true', Bool.not_eq_false', Bool.not_eq_true, Bool.not_eq_false, Int.not_lt, Int.not_le, Nat.not_lt, Nat.not_le, Decidable.not_not, ne_eq] at hc0
    rw [nd_no hc0, chL_le (by omega)] at hret
    refine WC_imp (fun w h => sat_nil (e := 1) (T := 3) (f := eN) h) ?_
    refine WC_sr fun K5 hK5 => ?_
    refine WL_rd (Rd_move rfl) rfl rfl rfl ?_
    refine WL_rd (Rd_assign (v := sl none 0 0) rfl) rfl rfl rfl ?_
    refine WL_rd (Rd_assign rfl) rfl rfl rfl ?_
    refine WL_end hK5 ?_
    refine WC_ret ?_
    first | exact hret.go (none, 0) (Rs2 rfl rfl rfl) | exact hret.go (a', cap') (Rs2 rfl rfl rfl)
  · try simp only [decide_eq_true_eq, decide_eq_false_iff_not, Bool.not_eq_true', Bool.not_eq_false', Bool.not_eq_true, Bool.not_eq_false, Int.not_lt, Int.not_le, Nat.not_lt, Nat.not_le, Decidable.not_not, ne_eq] at hc0
    rw [hc0] at hret
    refine WC_skip ?_
    refine Ps_next hK2 ?_
    refine WC_sr fun K6 hK6 => ?_
    refine WL_ac (Ac_alloc zr101) rfl rfl rfl ?_
    rintro _ _ ⟨b8, rfl, rfl⟩
    refine WL_end hK6 ?_
    refine WC_seq fun K7 hK7 => ?_
    refine WC_sr fun K8 hK8 => ?_
    refine WL_rd (Rd_move rfl) rfl rfl rfl ?_
    refine WL_rd (Rd_move rfl) rfl rfl rfl ?_
    refine WL_ac (Ac_call cf112 rfl (hs := up_ct (n := n) (l := l))) rfl rfl rfl ?_
    rintro _ _ ⟨u21, rfl, hA⟩
    simp only [List.cons_append, List.nil_append] at hA
    replace hA := hA.symm
    subst hA
    refine WL_end hK8 ?_
    refine WC_block ?_
    refine WC_imp (fun w h => sat_nil (e := 1) (T := 3) (f := eN) h) ?_
    rw [show cl b8 101 [.slice none 0 0] = cl b8 101 [sl none ([] : List Nat).length 0] from rfl]
    refine WC_rf (f := 161) (caps := [.pointer (some ⟨u21, 0, none⟩)]) rfl cf161 fun lrf_0 Drf_0 rrf_0 hstrf_0 hpdrf_0 hparf_0 hasrf_0 hbdrf_0 hfrrf_0 => ?_
    have hyrf_0 : ∀ (i : Nat), 1 ≤ i → i ≤ 1024 → Yd Try.prog lrf_0 [.int .i64 ((i : Nat) : Int)] [(fun (i : Nat) => exA (fun (⟨ns, a', cap'⟩ : (List Nat) × (Option Nat) × Nat) => ns ++ chL i = chL (ndM n l) ∧ ns.length + i ≤ 1024) (fun (⟨ns, a', cap'⟩ : (List Nat) × (Option Nat) × Nat) => [lp lrf_0 rrf_0, cl b8 101 [sl a' ns.length cap'], arr a' cap' 1 3 eN ns])) i] (fun b : Bool => .bool b) (fun b => [bif b then (fun (i : Nat) => exA (fun (⟨ns, a', cap'⟩ : (List Nat) × (Option Nat) × Nat) => ns ++ chL i = chL (ndM n l) ∧ ns.length + i ≤ 1024) (fun (⟨ns, a', cap'⟩ : (List Nat) × (Option Nat) × Nat) => [lp lrf_0 rrf_0, cl b8 101 [sl a' ns.length cap'], arr a' cap' 1 3 eN ns])) (i / 2) else (exA (fun _ : Unit => False) (fun _ => []))]) := by
      intro i hi1 hi2
      refine Yd_ex ?_
      rintro ⟨ns, a', cap'⟩ ⟨hch, hnsl⟩
      refine Yd_of (pre := [cl b8 101 [sl a' ns.length cap'], arr a' cap' 1 3 eN ns]) hstrf_0 hpdrf_0 hparf_0 hasrf_0 hbdrf_0 hfrrf_0 rfl rfl fun F w0 Q K hp hend hbeg => ?_
      change WC _ _ _ _ _ _ ((22, .int .i64 ((i : Nat) : Int)) :: _) (_ :: _ :: _ :: F)
      dsimp only at *
      refine WC_region ?_
      refine WL_rd (Rd_assign rfl) rfl rfl rfl ?_
      refine WL_nil ?_
      refine hbeg (by repeat (first | with_reducible exact Ext.here | with_reducible apply Ext.there)) ?_
      refine WC_block ?_
      refine WC_sr fun K9 hK9 => ?_
      refine WL_rd (Rd_move rfl) rfl rfl rfl ?_
      refine WL_rd (Rd_gtrN (j := 1) rfl rfl) rfl rfl rfl ?_
      refine WL_end hK9 ?_
      refine WC_cond rfl (fun hc1 => ?_) (fun hc1 => ?_)
      · try simp only [decide_eq_true_eq, decide_eq_false_iff_not, Bool.not_eq_true', Bool.not_eq_false', Bool.not_eq_true, Bool.not_eq_false, Int.not_lt, Int.not_le, Nat.not_lt, Nat.not_le, Decidable.not_not, ne_eq] at hc1
        rw [chL_gt (i := i) (by omega)] at hch
        refine WC_region ?_
        refine WL_rd (Rd_load rfl tk101) rfl rfl rfl ?_
        refine WL_rd (Rd_move rfl) rfl rfl rfl ?_
        refine WL_rd (Rd_xorN (i := i) (j := 1) (by omega) (by omega) rfl rfl) rfl rfl rfl ?_
        refine WL_ac (Ac_bs1 rfl ud101 zr3 sz3) rfl rfl rfl ?_
        rintro _ _ ⟨b28, rfl, rfl⟩
        refine WL_ac (Ac_append1 (f := eN) encN (i ^^^ 1) rfl rfl ud101 ud101 el3) rfl rfl rfl ?_
        rintro _ _ ⟨a29, cap29, rfl, rfl⟩
        rw [show ns.length + 1 = (ns ++ [i ^^^ 1]).length from by simp]
        refine WL_ac0 (Ac_store1 rfl rfl sz101) rfl rfl ?_
        rintro _ _ rfl
        refine WL_nil ?_
        refine hend.nrm true rfl (by repeat (first | with_reducible exact Ext.here | with_reducible apply Ext.there)) ?_
        try simp only [List.cons_append, List.nil_append, cond_true, cond_false]
        first | exact imp_ex (⟨ns ++ [i ^^^ 1], a29, cap29⟩) (⟨by dsimp only; rw [List.append_assoc]; exact hch, by dsimp only; rw [List.length_append, List.length_singleton]; omega⟩) (by (try dsimp only); (try simp only [List.cons_append, List.nil_append]); repeat (first | with_reducible exact Sub.refl | with_reducible exact Sub.nil | with_reducible refine Sub.cons (by repeat (first | with_reducible exact Ext.here | with_reducible apply Ext.there)) ?_ | with_reducible refine Sub.tail ?_)) | exact imp_ex (⟨ns, a', cap'⟩) (⟨by dsimp only; rw [chL_le (i := i / 2) (by omega)]; exact hch, by dsimp only; omega⟩) (by (try dsimp only); (try simp only [List.cons_append, List.nil_append]); repeat (first | with_reducible exact Sub.refl | with_reducible exact Sub.nil | with_reducible refine Sub.cons (by repeat (first | with_reducible exact Ext.here | with_reducible apply Ext.there)) ?_ | with_reducible refine Sub.tail ?_))
      · try simp only [decide_eq_true_eq, decide_eq_false_iff_not, Bool.not_eq_true', Bool.not_eq_false', Bool.not_eq_true, Bool.not_eq_false, Int.not_lt, Int.not_le, Nat.not_lt, Nat.not_le, Decidable.not_not, ne_eq] at hc1
        rw [chL_le (i := i) (by omega)] at hch
        refine WC_skip ?_
        refine hend.nrm true rfl (by repeat (first | with_reducible exact Ext.here | with_reducible apply Ext.there)) ?_
        try simp only [List.cons_append, List.nil_append, cond_true, cond_false]
        first | exact imp_ex (⟨ns ++ [i ^^^ 1], a29, cap29⟩) (⟨by dsimp only; rw [List.append_assoc]; exact hch, by dsimp only; rw [List.length_append, List.length_singleton]; omega⟩) (by (try dsimp only); (try simp only [List.cons_append, List.nil_append]); repeat (first | with_reducible exact Sub.refl | with_reducible exact Sub.nil | with_reducible refine Sub.cons (by repeat (first | with_reducible exact Ext.here | with_reducible apply Ext.there)) ?_ | with_reducible refine Sub.tail ?_)) | exact imp_ex (⟨ns, a', cap'⟩) (⟨by dsimp only; rw [chL_le (i := i / 2) (by omega)]; exact hch, by dsimp only; omega⟩) (by (try dsimp only); (try simp only [List.cons_append, List.nil_append]); repeat (first | with_reducible exact Sub.refl | with_reducible exact Sub.nil | with_reducible refine Sub.cons (by repeat (first | with_reducible exact Ext.here | with_reducible apply Ext.there)) ?_ | with_reducible refine Sub.tail ?_))
    refine ⟨_, _, _, _, _, up1_ct (X := (fun (i : Nat) => exA (fun (⟨ns, a', cap'⟩ : (List Nat) × (Option Nat) × Nat) => ns ++ chL i = chL (ndM n l) ∧ ns.length + i ≤ 1024) (fun (⟨ns, a', cap'⟩ : (List Nat) × (Option Nat) × Nat) => [lp lrf_0 rrf_0, cl b8 101 [sl a' ns.length cap'], arr a' cap' 1 3 eN ns]))) (J := (exA (fun _ : Unit => False) (fun _ => []))) (hy := hyrf_0) (hm := hnl), imp_rf (Y := [_]) (⟨[], none, 0⟩) (⟨rfl, by dsimp only [List.length_nil]; omega⟩) (by repeat (first | with_reducible exact Gv.nil | (with_reducible apply Gv.cons; · (repeat (first | with_reducible exact Ext.here | with_reducible apply Ext.there))))) (by (try dsimp only); repeat (first | with_reducible exact Gv.nil | (with_reducible apply Gv.cons; · (repeat (first | with_reducible exact Ext.here | with_reducible apply Ext.there))))), ?_⟩
    · rintro (_ | _)
      · simp only [List.cons_append, List.nil_append, cond_true, cond_false]
        refine RfEnd_ex ?_
        exact fun _ h => h.elim
      · simp only [List.cons_append, List.nil_append, cond_true, cond_false]
        refine RfEnd_ex ?_
        rintro ⟨ns, a', cap'⟩ ⟨hch, hnsl⟩
        simp only [List.cons_append, List.nil_append]
        rw [chL_le (i := 0) (by omega), List.append_nil] at hch
        subst hch
        refine RfEnd_nrm hstrf_0 hpdrf_0 ?_
        refine Ps_next hK7 ?_
        refine WC_sr fun K10 hK10 => ?_
        refine WL_rd (Rd_load rfl tk101) rfl rfl rfl ?_
        refine WL_rd (Rd_assign rfl) rfl rfl rfl ?_
        refine WL_rd (Rd_assign rfl) rfl rfl rfl ?_
        refine WL_end hK10 ?_
        refine WC_ret ?_
        first | exact hret.goD (none, 0) (Rs2 rfl rfl rfl) | exact hret.goD (a', cap') (Rs2 rfl rfl rfl)
end Go.Proofs.Ythkchjcodibaeaa
