/-
  Contracts of functions that the claim reaches, or the logic and the plain laws that they rest on, or the row over them. (Conditions: none beyond the statement.)
-/
import Derived.Test.YtcookmkklcbbnaaHqInt
set_option linter.all false
namespace Go.Proofs.Ytcookmkklcbbnaa
open Go.RowKit Go.SL Go.HpM
set_option maxHeartbeats 1000000
set_option maxRecDepth 20000
set_option linter.all false
theorem cf12 : cfn Try.prog 12 = true := by kernel_rfl
theorem cf19 : cfn Try.prog 19 = true := by kernel_rfl
theorem cf24 : cfn Try.prog 24 = true := by kernel_rfl
theorem cf25 : cfn Try.prog 25 = true := by kernel_rfl
theorem cf26 : cfn Try.prog 26 = true := by kernel_rfl
theorem cf39 : cfn Try.prog 39 = true := by kernel_rfl
theorem cf46 : cfn Try.prog 46 = true := by kernel_rfl
/-- the order by the rest of a division -/
def ltz (by_ x y : Int) : Bool := if by_ ≤ 0 then decide (x < y) else decide (x.tmod by_ < y.tmod by_)
theorem ltz_od (by_ : Int) : Od (ltz by_) := by
  unfold ltz
  constructor
  · intro x; split <;> simp
  · intro x y z; split <;> simp <;> omega
  · intro x y z; split <;> simp <;> omega
def caO (c : Nat) : List Value := [.pointer (some ⟨c, 0, none⟩)]
def lvO (c : Nat) : Value := .func (.func 45) #[] (caO c).toArray
def JO (c : Nat) (by_ : Int) : Asn := cl c 3 [.int .i64 by_]

theorem Ahead_ct {by_ x y : Int}  : Ct Try.prog 46 [.int .i64 by_, .int .i64 x, .int .i64 y] [] (fun _ : Unit => .bool (ltz by_ x y)) (fun _ => []) := by
  refine Ct_body (n := 19) Try.func46 rfl rfl rfl fun F w0 Q hret hnorm hp => ?_
  change WC _ _ _ _ _ _ _ (F)
  refine WC_sr fun K1 hK1 => ?_
  refine WL_rd (Rd_assign rfl) rfl rfl rfl ?_
  refine WL_end hK1 ?_
  refine WC_seq fun K2 hK2 => ?_
  refine WC_sr fun K3 hK3 => ?_
  refine WL_rd (Rd_move rfl) rfl rfl rfl ?_
  refine WL_rd (Rd_leq rfl rfl) rfl rfl rfl ?_
  refine WL_end hK3 ?_
  refine WC_cond rfl (fun hc0 => ?_) (fun hc0 => ?_)
  · try simp only [decide_eq_true_eq, decide_eq_false_iff_not, Bool.not_eq_true', Bool.not_eq_false', Bool.not_eq_true, Bool.not_eq_false, Int.not_lt, Int.not_le, Nat.not_lt, Nat.not_le, Decidable.not_not, ne_eq] at hc0
    rw [show ltz by_ x y = decide (x < y) from by unfold ltz; rw [if_pos hc0]] at hret
    refine WC_sr fun K4 hK4 => ?_
    refine WL_rd (Rd_move rfl) rfl rfl rfl ?_
    refine WL_rd (Rd_move rfl) rfl rfl rfl ?_
    refine WL_rd (Rd_lss rfl rfl) rfl rfl rfl ?_
    refine WL_rd (Rd_assign rfl) rfl rfl rfl ?_
    refine WL_end hK4 ?_
    refine WC_ret ?_
    exact hret.go () (Rs1 rfl rfl)
  · try simp only [decide_eq_true_eq, decide_eq_false_iff_not, Bool.not_eq_true', Bool.not_eq_false', Bool.not_eq_true, Bool.not_eq_false, Int.not_lt, Int.not_le, Nat.not_lt, Nat.not_le, Decidable.not_not, ne_eq] at hc0
    rw [show ltz by_ x y = decide (x.tmod by_ < y.tmod by_) from by unfold ltz; rw [if_neg (by omega)]] at hret
    refine WC_skip ?_
    refine Ps_next hK2 ?_
    refine WC_seq fun K5 hK5 => ?_
    refine WC_drawA mix (fun i => ([2, 2, 2, 2, 2, 2, 2, 2] : List Nat).getD i 0) ?_
    refine WJ_takeP 0 rfl (by kernel_rfl) (Rd_move rfl) rfl rfl rfl (hp _ _) ?_
    refine WJ_takeP 1 rfl (by kernel_rfl) (Rd_move rfl) rfl rfl rfl (hp _ _) ?_
    refine WJ_takeP 2 rfl (by kernel_rfl) (Rd_rem' rfl rfl (by omega) rfl) rfl rfl rfl (hp _ _) ?_
    refine WJ_takeP 3 rfl (by kernel_rfl) (Rd_move rfl) rfl rfl rfl (hp _ _) ?_
    refine WJ_takeP 4 rfl (by kernel_rfl) (Rd_move rfl) rfl rfl rfl (hp _ _) ?_
    refine WJ_takeP 5 rfl (by kernel_rfl) (Rd_rem' rfl rfl (by omega) rfl) rfl rfl rfl (hp _ _) ?_
    first | refine WJ_takeP 6 rfl (by kernel_rfl) (Rd_lssN rfl rfl) rfl rfl rfl (hp _ _) ?_ | refine WJ_takeP 6 rfl (by kernel_rfl) (Rd_lss rfl rfl) rfl rfl rfl (hp _ _) ?_
    refine WJ_takeP 7 rfl (by kernel_rfl) (Rd_assign rfl) rfl rfl rfl (hp _ _) ?_
    refine WJ_done (by kernel_rfl) ?_
    refine Ps_next hK5 ?_
    refine WC_ret ?_
    exact hret.go () (Rs1 rfl rfl)

theorem order1_ct {c : Nat} {by_ x y : Int}  : Ct Try.prog 45 [.int .i64 x, .int .i64 y, .pointer (some ⟨c, 0, none⟩)] [cl c 3 [.int .i64 by_]] (fun _ : Unit => .bool (ltz by_ x y)) (fun _ => [cl c 3 [.int .i64 by_]]) := by
  refine Ct_body (n := 10) Try.func45 rfl rfl rfl fun F w0 Q hret hnorm hp => ?_
  change WC _ _ _ _ _ _ _ (_ :: F)
  refine WC_sr fun K1 hK1 => ?_
  refine WL_rd (Rd_assign rfl) rfl rfl rfl ?_
  refine WL_end hK1 ?_
  refine WC_sr fun K2 hK2 => ?_
  refine WL_rd (Rd_load rfl tk3) rfl rfl rfl ?_
  refine WL_rd (Rd_move rfl) rfl rfl rfl ?_
  refine WL_rd (Rd_move rfl) rfl rfl rfl ?_
  refine WL_ac (Ac_call cf46 rfl (hs := Ahead_ct)) rfl rfl rfl ?_
  rintro _ _ ⟨⟨⟩, rfl, hA⟩
  simp only [List.cons_append, List.nil_append] at hA
  replace hA := hA.symm
  subst hA
  refine WL_rd (Rd_assign rfl) rfl rfl rfl ?_
  refine WL_end hK2 ?_
  refine WC_ret ?_
  exact hret.go () (Rs1 rfl rfl)

theorem order_ct {by_ : Int}  : Ct Try.prog 19 [.int .i64 by_] [] (fun c : Nat => lvO c) (fun c => [JO c by_]) := by
  refine Ct_body (n := 4) Try.func19 rfl rfl rfl fun F w0 Q hret hnorm hp => ?_
  change WC _ _ _ _ _ _ _ (F)
  refine WC_sr fun K1 hK1 => ?_
  refine WL_ac (Ac_box rfl rfl) rfl rfl rfl ?_
  rintro _ _ ⟨c, rfl, rfl⟩
  refine WL_rd (Rd_assign rfl) rfl rfl rfl ?_
  refine WL_end hK1 ?_
  refine WC_sr fun K2 hK2 => ?_
  refine WL_rd (Rd_makeFunc rfl rfl) rfl rfl rfl ?_
  refine WL_rd (Rd_assign rfl) rfl rfl rfl ?_
  refine WL_end hK2 ?_
  refine WC_ret ?_
  exact hret.go c (Rs1 rfl rfl) (by unfold JO; simp only [List.cons_append, List.nil_append]; repeat (first | with_reducible exact Sub.refl | with_reducible exact Sub.nil | with_reducible refine Sub.cons (by repeat (first | with_reducible exact Ext.here | with_reducible apply Ext.there)) ?_ | with_reducible refine Sub.tail ?_))

theorem hcfO : cfn Try.prog 45 = true := by kernel_rfl
theorem hlessO (c : Nat) (by_ : Int) : ∀ (s : Unit) (x y : Int), Ct Try.prog 45 ([.int .i64 x, .int .i64 y] ++ caO c) [JO c by_] (fun _ : Unit => .bool (pl (ltz by_) s x y).1) (fun _ => [JO c by_]) := fun _ _ _ => order1_ct
theorem live1 : (pushM (pl (ltz 0)) () [] 0 5).1 = [(0, 5)] := by unfold pushM; rw [List.length_nil, upM_zero]; rfl
theorem live2 : (pushM (pl (ltz 0)) () [(0, 5)] 1 3).1 = [(1, 3), (0, 5)] := by
  unfold pushM; rw [show [((0 : Nat), (5 : Int))].length = 1 from rfl, upM_step (x := (1, 3)) (y := (0, 5)) _ _ (by decide) rfl rfl, if_pos (by rfl), upM_zero]; rfl
theorem live3 : (takeM (pl (ltz 0)) () [(1, 3), (0, 5)] 0).1 = [(0, 5)] := by
  unfold takeM; rw [if_pos (by decide)]
  have e : (swp [((1 : Nat), (3 : Int)), (0, 5)] 0 ([((1 : Nat), (3 : Int)), (0, 5)].length - 1)).take ([((1 : Nat), (3 : Int)), (0, 5)].length - 1) = [(0, 5)] := rfl
  rw [e, downM_stop rfl, upM_zero]

theorem lives_ct   : Ct Try.prog 12 [] [] (fun _ : Unit => .bool true) (fun _ => []) := by
  refine Ct_body (n := 75) Try.func12 rfl rfl rfl fun F w0 Q hret hnorm hp => ?_
  change WC _ _ _ _ _ _ _ (F)
  refine WC_sr fun K1 hK1 => ?_
  refine WL_rd (Rd_assign rfl) rfl rfl rfl ?_
  refine WL_end hK1 ?_
  refine WC_sr fun K2 hK2 => ?_
  refine WL_ac (Ac_call cf19 rfl (hs := order_ct)) rfl rfl rfl ?_
  rintro _ _ ⟨c12, rfl, hA⟩
  simp only [List.cons_append, List.nil_append] at hA
  replace hA := hA.symm
  subst hA
  refine WL_ac (Ac_call cf24 rfl (hs := hI_new_hp (lf := 45) (caps := caO c12))) rfl rfl rfl ?_
  rintro _ _ ⟨b, rfl, hA⟩
  simp only [List.cons_append, List.nil_append] at hA
  replace hA := hA.symm
  subst hA
  refine WL_rd (Rd_move rfl) rfl rfl rfl ?_
  refine WL_rd (Rd_ext0 rfl) rfl rfl rfl ?_
  refine WL_rd (Rd_ext1 rfl) rfl rfl rfl ?_
  refine WL_rd (Rd_assign rfl) rfl rfl rfl ?_
  refine WL_rd (Rd_assign rfl) rfl rfl rfl ?_
  refine WL_end hK2 ?_
  refine WC_seq fun K3 hK3 => ?_
  refine WC_sr fun K4 hK4 => ?_
  refine WL_rd (Rd_move rfl) rfl rfl rfl ?_
  refine WL_rd (Rd_neqN (i := 0) (j := 0) rfl rfl) rfl rfl rfl ?_
  refine WL_rd (Rd_move rfl) rfl rfl rfl ?_
  refine WL_rd (Rd_move rfl) rfl rfl rfl ?_
  refine WL_rd (Rd_peq rfl rfl ud55) rfl rfl rfl ?_
  refine WL_rd (Rd_pickF rfl rfl) rfl rfl rfl ?_
  refine WL_end hK4 ?_
  refine WC_condF rfl ?_
  refine WC_skip ?_
  refine Ps_next hK3 ?_
  refine WC_sr fun K5 hK5 => ?_
  refine WL_rd (Rd_move rfl) rfl rfl rfl ?_
  refine WL_ac (Ac_call cf25 rfl (hs := hI_push_hp hcfO (hlessO _ 0) (s := ()))) rfl rfl rfl ?_
  rintro _ _ ⟨⟨⟩, rfl, hA⟩
  simp only [List.cons_append, List.nil_append] at hA
  replace hA := hA.symm
  subst hA
  rw [live1]
  refine WL_rd (Rd_move rfl) rfl rfl rfl ?_
  refine WL_rd (Rd_ext0 rfl) rfl rfl rfl ?_
  refine WL_rd (Rd_ext1 rfl) rfl rfl rfl ?_
  refine WL_rd (Rd_assign rfl) rfl rfl rfl ?_
  refine WL_rd (Rd_assign rfl) rfl rfl rfl ?_
  refine WL_end hK5 ?_
  refine WC_sr fun K6 hK6 => ?_
  refine WL_rd (Rd_move rfl) rfl rfl rfl ?_
  refine WL_ac (Ac_call cf25 rfl (hs := hI_push_hp hcfO (hlessO _ 0) (s := ()))) rfl rfl rfl ?_
  rintro _ _ ⟨⟨⟩, rfl, hA⟩
  simp only [List.cons_append, List.nil_append] at hA
  replace hA := hA.symm
  subst hA
  rw [live2]
  refine WL_rd (Rd_move rfl) rfl rfl rfl ?_
  refine WL_rd (Rd_ext0 rfl) rfl rfl rfl ?_
  refine WL_rd (Rd_ext1 rfl) rfl rfl rfl ?_
  refine WL_rd (Rd_assign rfl) rfl rfl rfl ?_
  refine WL_rd (Rd_assign rfl) rfl rfl rfl ?_
  refine WL_end hK6 ?_
  refine WC_sr fun K7 hK7 => ?_
  refine WL_rd (Rd_move rfl) rfl rfl rfl ?_
  refine WL_ac (Ac_call cf26 rfl (hs := hI_pop_hp hcfO (hlessO _ 0) (s := ()) (x := (1, 3)) (hx0 := rfl))) rfl rfl rfl ?_
  rintro _ _ ⟨⟨⟩, rfl, hA⟩
  simp only [List.cons_append, List.nil_append] at hA
  replace hA := hA.symm
  subst hA
  rw [live3]
  refine WL_rd (Rd_move rfl) rfl rfl rfl ?_
  refine WL_rd (Rd_ext0 rfl) rfl rfl rfl ?_
  refine WL_rd (Rd_ext1 rfl) rfl rfl rfl ?_
  refine WL_rd (Rd_assign rfl) rfl rfl rfl ?_
  refine WL_rd (Rd_assign rfl) rfl rfl rfl ?_
  refine WL_end hK7 ?_
  refine WC_sr fun K8 hK8 => ?_
  refine WL_rd (Rd_move rfl) rfl rfl rfl ?_
  refine WL_ac (Ac_call cf39 rfl (hs := hI_peek_hp (lf := 45) (caps := caO c12) (x := (0, 5)) (hx0 := rfl))) rfl rfl rfl ?_
  rintro _ _ ⟨⟨⟩, rfl, hA⟩
  simp only [List.cons_append, List.nil_append] at hA
  replace hA := hA.symm
  subst hA
  refine WL_rd (Rd_move rfl) rfl rfl rfl ?_
  refine WL_rd (Rd_ext0 rfl) rfl rfl rfl ?_
  refine WL_rd (Rd_ext1 rfl) rfl rfl rfl ?_
  refine WL_rd (Rd_assign rfl) rfl rfl rfl ?_
  refine WL_rd (Rd_assign rfl) rfl rfl rfl ?_
  refine WL_end hK8 ?_
  refine WC_sr fun K9 hK9 => ?_
  refine WL_rd (Rd_move rfl) rfl rfl rfl ?_
  refine WL_rd (Rd_eqlN (i := 0) (j := 0) rfl rfl) rfl rfl rfl ?_
  refine WL_rd (Rd_move rfl) rfl rfl rfl ?_
  refine WL_rd (Rd_move rfl) rfl rfl rfl ?_
  refine WL_rd (Rd_eqlN (i := 0) (j := 0) rfl rfl) rfl rfl rfl ?_
  refine WL_rd (Rd_pickT rfl rfl) rfl rfl rfl ?_
  refine WL_rd (Rd_move rfl) rfl rfl rfl ?_
  refine WL_rd (Rd_move rfl) rfl rfl rfl ?_
  refine WL_rd (Rd_isT (Rd_eqlN (j := 0) rfl rfl)) rfl rfl rfl ?_
  refine WL_rd (Rd_pickT rfl rfl) rfl rfl rfl ?_
  refine WL_rd (Rd_move rfl) rfl rfl rfl ?_
  refine WL_rd (Rd_move rfl) rfl rfl rfl ?_
  refine WL_rd (Rd_isT (Rd_eqlN (j := 1) rfl rfl)) rfl rfl rfl ?_
  refine WL_rd (Rd_pickT rfl rfl) rfl rfl rfl ?_
  refine WL_rd (Rd_move rfl) rfl rfl rfl ?_
  refine WL_rd (Rd_move rfl) rfl rfl rfl ?_
  refine WL_rd (Rd_pickT rfl rfl) rfl rfl rfl ?_
  refine WL_rd (Rd_move rfl) rfl rfl rfl ?_
  refine WL_rd (Rd_move rfl) rfl rfl rfl ?_
  refine WL_rd (Rd_pickT rfl rfl) rfl rfl rfl ?_
  refine WL_rd (Rd_move rfl) rfl rfl rfl ?_
  refine WL_rd (Rd_move rfl) rfl rfl rfl ?_
  refine WL_rd (Rd_isT (Rd_eql rfl rfl)) rfl rfl rfl ?_
  refine WL_rd (Rd_pickT rfl rfl) rfl rfl rfl ?_
  refine WL_rd (Rd_move rfl) rfl rfl rfl ?_
  refine WL_rd (Rd_move rfl) rfl rfl rfl ?_
  refine WL_rd (Rd_isT (Rd_eql rfl rfl)) rfl rfl rfl ?_
  refine WL_rd (Rd_pickT rfl rfl) rfl rfl rfl ?_
  refine WL_rd (Rd_move rfl) rfl rfl rfl ?_
  refine WL_rd (Rd_move rfl) rfl rfl rfl ?_
  refine WL_ac (Ac_call cf27 rfl (hs := hI_len_hp (lf := 45) (caps := caO c12))) rfl rfl rfl ?_
  rintro _ _ ⟨⟨⟩, rfl, hA⟩
  simp only [List.cons_append, List.nil_append] at hA
  replace hA := hA.symm
  subst hA
  refine WL_rd (Rd_isT (Rd_eqlN (j := 1) rfl rfl)) rfl rfl rfl ?_
  refine WL_rd (Rd_pickT rfl rfl) rfl rfl rfl ?_
  refine WL_rd (Rd_assign rfl) rfl rfl rfl ?_
  refine WL_end hK9 ?_
  refine WC_ret ?_
  exact hret.go () (Rs1 rfl rfl)

theorem Names_ct   : Ct Try.prog 5 [] [] (fun _ : Unit => .bool true) (fun _ => []) := by
  refine Ct_body (n := 4) Try.func5 rfl rfl rfl fun F w0 Q hret hnorm hp => ?_
  change WC _ _ _ _ _ _ _ (F)
  refine WC_sr fun K1 hK1 => ?_
  refine WL_rd (Rd_assign rfl) rfl rfl rfl ?_
  refine WL_end hK1 ?_
  refine WC_sr fun K2 hK2 => ?_
  refine WL_rd (Rd_move rfl) rfl rfl rfl ?_
  refine WL_ac (Ac_call cf12 rfl (hs := lives_ct)) rfl rfl rfl ?_
  rintro _ _ ⟨⟨⟩, rfl, hA⟩
  simp only [List.cons_append, List.nil_append] at hA
  replace hA := hA.symm
  subst hA
  refine WL_rd (Rd_pickT rfl rfl) rfl rfl rfl ?_
  refine WL_rd (Rd_assign rfl) rfl rfl rfl ?_
  refine WL_end hK2 ?_
  refine WC_ret ?_
  exact hret.go () (Rs1 rfl rfl)
end Go.Proofs.Ytcookmkklcbbnaa
