/-
  Contracts of functions that the claim reaches, or the row over them: the law returns true for every input of bulk at most 1048576. (Conditions: none beyond the statement.)
-/
import Derived.Test.YtcemkpiopijbmaaCqHP
set_option linter.all false
namespace Go.Proofs.Ytcemkpiopijbmaa
open Go.RowKit Go.SL Go.HpM
set_option maxHeartbeats 1000000
set_option maxRecDepth 20000
set_option linter.all false
theorem cf41 : cfn Try.prog 41 = true := by kernel_rfl
theorem cf44 : cfn Try.prog 44 = true := by kernel_rfl
theorem cf45 : cfn Try.prog 45 = true := by kernel_rfl
theorem cf46 : cfn Try.prog 46 = true := by kernel_rfl
theorem cf48 : cfn Try.prog 48 = true := by kernel_rfl
theorem cf49 : cfn Try.prog 49 = true := by kernel_rfl
theorem fo35_1 : fo Try.prog 35 1 = some (1, 3) := by kernel_rfl
theorem fo109_0 : fo Try.prog 109 0 = some (0, 3) := by kernel_rfl
theorem fo109_1 : fo Try.prog 109 1 = some (1, 3) := by kernel_rfl
theorem fo109_2 : fo Try.prog 109 2 = some (2, 104) := by kernel_rfl
theorem pls35 : pls Try.prog 35 = some ([.int .i64 0, .int .i64 0, .int .i64 0, .int .i64 0], [(0, 1), (1, 1), (2, 2)]) := by kernel_rfl
theorem pls109 : pls Try.prog 109 = some ([.int .i64 0, .int .i64 0, .pointer none], [(0, 1), (1, 1), (2, 1)]) := by kernel_rfl
theorem tk29 : tk Try.prog 29 = some (some 2) := by kernel_rfl
theorem tk104 : tk Try.prog 104 = some none := by kernel_rfl
theorem ud24 : Try.prog.underlying 24 = some (.pointer 109) := by kernel_rfl
def kP_eD (x : (Int × Int × (Int × Int))) : List Value := [.int .i64 x.1, .int .i64 x.2.1, .int .i64 x.2.2.1, .int .i64 x.2.2.2]
theorem kP_encD : Enc kP_eD 4 := ⟨fun _ => rfl, fun x v hv => by simp only [kP_eD, List.mem_cons, List.not_mem_nil, or_false] at hv; rcases hv with rfl | rfl | rfl | rfl <;> rfl⟩
def kP_lt (x y : (Int × Int × (Int × Int))) : Bool := decide (x.2.1 < y.2.1)
theorem kP_lt_od : Od kP_lt := by
  unfold kP_lt
  constructor
  · intro x; simp
  · intro x y z; simp; omega
  · intro x y z; simp; omega

theorem kP_lt_ct {x y : (Int × Int × (Int × Int))}  : Ct Try.prog 42 [.agg [.int .i64 x.1, .int .i64 x.2.1, .int .i64 x.2.2.1, .int .i64 x.2.2.2].toArray, .agg [.int .i64 y.1, .int .i64 y.2.1, .int .i64 y.2.2.1, .int .i64 y.2.2.2].toArray] [] (fun _ : Unit => .bool (decide (x.2.1 < y.2.1))) (fun _ => []) := by
  refine Ct_body (n := 10) Try.func42 rfl rfl rfl fun F w0 Q hret hnorm hp => ?_
  change WC _ _ _ _ _ _ (F)
  refine WC_sr fun K1 hK1 => ?_
  refine WL_ac (Ac_box rfl rfl) rfl rfl rfl ?_
  rintro _ _ ⟨b2, rfl, rfl⟩
  refine WL_ac (Ac_box rfl rfl) rfl rfl rfl ?_
  rintro _ _ ⟨b3, rfl, rfl⟩
  refine WL_rd (Rd_assign rfl) rfl rfl rfl ?_
  refine WL_end hK1 ?_
  refine WC_sr fun K2 hK2 => ?_
  refine WL_rd (Rd_fieldAddr rfl fo35_1) rfl rfl rfl ?_
  refine WL_rd (Rd_load rfl tk3) rfl rfl rfl ?_
  refine WL_rd (Rd_fieldAddr rfl fo35_1) rfl rfl rfl ?_
  refine WL_rd (Rd_load rfl tk3) rfl rfl rfl ?_
  first | refine WL_rd (Rd_lssN rfl rfl) rfl rfl rfl ?_ | refine WL_rd (Rd_lss rfl rfl) rfl rfl rfl ?_
  refine WL_rd (Rd_assign rfl) rfl rfl rfl ?_
  refine WL_end hK2 ?_
  refine WC_ret ?_
  exact hret.go () (Rs1 rfl rfl)

theorem kP_hcf : cfn Try.prog 42 = true := by kernel_rfl
theorem kP_hless : ∀ (s : Unit) (x y : (Int × Int × (Int × Int))), Ct Try.prog 42 ([.agg [.int .i64 x.1, .int .i64 x.2.1, .int .i64 x.2.2.1, .int .i64 x.2.2.2].toArray, .agg [.int .i64 y.1, .int .i64 y.2.1, .int .i64 y.2.2.1, .int .i64 y.2.2.2].toArray] ++ ([] : List Value)) [emp] (fun _ : Unit => .bool (pl kP_lt s x y).1) (fun _ => [emp]) := fun _ x y => (kP_lt_ct (x := x) (y := y)).frame [emp]

theorem kP_made {c hb : Nat} {x y : Value}  : Ct Try.prog 46 [.pointer (some ⟨c, 0, none⟩)] [cl c 109 [x, y, .pointer (some ⟨hb, 0, none⟩)]] (fun _ : Unit => .bool true) (fun _ => [cl c 109 [x, y, .pointer (some ⟨hb, 0, none⟩)]]) := by
  refine Ct_body (n := 12) Try.func46 rfl rfl rfl fun F w0 Q hret hnorm hp => ?_
  change WC _ _ _ _ _ _ (_ :: F)
  refine WC_sr fun K1 hK1 => ?_
  refine WL_rd (Rd_assign rfl) rfl rfl rfl ?_
  refine WL_end hK1 ?_
  refine WC_sr fun K2 hK2 => ?_
  refine WL_rd (Rd_move rfl) rfl rfl rfl ?_
  refine WL_rd (Rd_pne rfl rfl ud24) rfl rfl rfl ?_
  refine WL_rd (Rd_move rfl) rfl rfl rfl ?_
  refine WL_rd (Rd_move rfl) rfl rfl rfl ?_
  refine WL_rd (Rd_nilCheck rfl) rfl rfl rfl ?_
  refine WL_rd (Rd_fieldAddr rfl fo109_2) rfl rfl rfl ?_
  refine WL_rd (Rd_load rfl tk104) rfl rfl rfl ?_
  refine WL_rd (Rd_pne rfl rfl ud104) rfl rfl rfl ?_
  refine WL_rd (Rd_pickT rfl rfl) rfl rfl rfl ?_
  refine WL_rd (Rd_assign rfl) rfl rfl rfl ?_
  refine WL_end hK2 ?_
  refine WC_ret ?_
  exact hret.go () (Rs1 rfl rfl)

theorem kP_new {tick : Int} (h0 : 0 ≤ tick := by omega) (h1 : tick ≤ 1099511627776 := by omega) : Ct Try.prog 9 [.int .i64 tick] [] (fun g : Nat × Nat => .tuple #[.pointer (some ⟨g.1, 0, none⟩), .int .i64 0]) (fun g => [cl g.1 109 [.int .i64 tick, .int .i64 ((0 : Nat) : Int), .pointer (some ⟨g.2, 0, none⟩)], kP_h_hpA (.func (.func 42) #[] ([] : List Value).toArray) g.2 [] 0, emp]) := by
  refine Ct_body (n := 21) Try.func9 rfl rfl rfl fun F w0 Q hret hnorm hp => ?_
  change WC _ _ _ _ _ _ (F)
  refine WC_emp ?_
  refine WC_sr fun K1 hK1 => ?_
  refine WL_rd (Rd_assign rfl) rfl rfl rfl ?_
  refine WL_rd (Rd_assign rfl) rfl rfl rfl ?_
  refine WL_end hK1 ?_
  refine WC_seq fun K2 hK2 => ?_
  refine WC_sr fun K3 hK3 => ?_
  refine WL_rd (Rd_move rfl) rfl rfl rfl ?_
  refine WL_rd (Rd_isF (Rd_lss rfl rfl)) rfl rfl rfl ?_
  refine WL_rd (Rd_move rfl) rfl rfl rfl ?_
  refine WL_rd (Rd_move rfl) rfl rfl rfl ?_
  refine WL_rd (Rd_isF (Rd_gtr rfl rfl)) rfl rfl rfl ?_
  refine WL_rd (Rd_pickF rfl rfl) rfl rfl rfl ?_
  refine WL_end hK3 ?_
  refine WC_condF rfl ?_
  refine WC_skip ?_
  refine Ps_next hK2 ?_
  refine WC_sr fun K4 hK4 => ?_
  refine WL_ac (Ac_call cf41 rfl (hs := kP_h_new_hp (lf := 42) (caps := []))) rfl rfl rfl ?_
  rintro _ _ ⟨hb, rfl, hA⟩
  simp only [List.cons_append, List.nil_append] at hA
  subst hA
  refine WL_rd (Rd_move rfl) rfl rfl rfl ?_
  refine WL_rd (Rd_ext0 rfl) rfl rfl rfl ?_
  refine WL_rd (Rd_ext1 rfl) rfl rfl rfl ?_
  refine WL_rd (Rd_assign rfl) rfl rfl rfl ?_
  refine WL_rd (Rd_assign rfl) rfl rfl rfl ?_
  refine WL_end hK4 ?_
  refine WC_sr fun K5 hK5 => ?_
  refine WL_rd (Rd_move rfl) rfl rfl rfl ?_
  refine WL_rd (Rd_move rfl) rfl rfl rfl ?_
  refine WL_rd (Rd_build pls109 rfl) rfl rfl rfl ?_
  refine WL_ac (Ac_box (xs := [.int .i64 tick, .int .i64 ((0 : Nat) : Int), .pointer (some ⟨hb, 0, none⟩)]) rfl rfl) rfl rfl rfl ?_
  rintro _ _ ⟨c1, rfl, rfl⟩
  refine WL_rd (Rd_move rfl) rfl rfl rfl ?_
  refine WL_rd (Rd_assign rfl) rfl rfl rfl ?_
  refine WL_rd (Rd_assign rfl) rfl rfl rfl ?_
  refine WL_end hK5 ?_
  refine WC_ret ?_
  exact hret.go (c1, hb) (Rs2 rfl rfl rfl)

theorem kP_new_bad {tick : Int} (hb : tick < 0 ∨ 1099511627776 < tick) : Ct Try.prog 9 [.int .i64 tick] [] (fun _ : Unit => .tuple #[.pointer none, .int .i64 2]) (fun _ => []) := by
  refine Ct_body (n := 21) Try.func9 rfl rfl rfl fun F w0 Q hret hnorm hp => ?_
  change WC _ _ _ _ _ _ (F)
  refine WC_sr fun K1 hK1 => ?_
  refine WL_rd (Rd_assign rfl) rfl rfl rfl ?_
  refine WL_rd (Rd_assign rfl) rfl rfl rfl ?_
  refine WL_end hK1 ?_
  refine WC_seq fun K2 hK2 => ?_
  refine WC_sr fun K3 hK3 => ?_
  refine WL_rd (Rd_move rfl) rfl rfl rfl ?_
  refine WL_rd (Rd_lss rfl rfl) rfl rfl rfl ?_
  refine WL_rd (Rd_move rfl) rfl rfl rfl ?_
  refine WL_bool 8 rfl (fun hg4 => ?_) (fun hg4 => ?_)
  · try simp only [decide_eq_true_eq, decide_eq_false_iff_not, Bool.not_eq_true', Bool.not_eq_false', Bool.not_eq_true, Bool.not_eq_false, Int.not_lt, Int.not_le, Nat.not_lt, Nat.not_le, Decidable.not_not, ne_eq] at hg4
    refine WL_skip rfl rfl rfl ?_
    refine WL_skip rfl rfl rfl ?_
    refine WL_rd (Rd_pickT rfl rfl) rfl rfl rfl ?_
    refine WL_end hK3 ?_
    refine WC_condT rfl ?_
    refine WC_sr fun K5 hK5 => ?_
    refine WL_rd (Rd_assign rfl) rfl rfl rfl ?_
    refine WL_rd (Rd_assign rfl) rfl rfl rfl ?_
    refine WL_end hK5 ?_
    refine WC_ret ?_
    exact hret.go () (Rs2 rfl rfl rfl)
  · try simp only [decide_eq_true_eq, decide_eq_false_iff_not, Bool.not_eq_true', Bool.not_eq_false', Bool.not_eq_true, Bool.not_eq_false, Int.not_lt, Int.not_le, Nat.not_lt, Nat.not_le, Decidable.not_not, ne_eq] at hg4
    refine WL_rd (Rd_move rfl) rfl rfl rfl ?_
    refine WL_rd (Rd_gtr rfl rfl) rfl rfl rfl ?_
    refine WL_rd (Rd_pickF rfl rfl) rfl rfl rfl ?_
    refine WL_end hK3 ?_
    refine WC_cond rfl (fun hc0 => ?_) (fun hc0 => ?_)
    · try simp only [decide_eq_true_eq, decide_eq_false_iff_not, Bool.not_eq_true', Bool.not_eq_false', Bool.not_eq_true, Bool.not_eq_false, Int.not_lt, Int.not_le, Nat.not_lt, Nat.not_le, Decidable.not_not, ne_eq] at hc0
      refine WC_sr fun K6 hK6 => ?_
      refine WL_rd (Rd_assign rfl) rfl rfl rfl ?_
      refine WL_rd (Rd_assign rfl) rfl rfl rfl ?_
      refine WL_end hK6 ?_
      refine WC_ret ?_
      exact hret.go () (Rs2 rfl rfl rfl)
    · try simp only [decide_eq_true_eq, decide_eq_false_iff_not, Bool.not_eq_true', Bool.not_eq_false', Bool.not_eq_true, Bool.not_eq_false, Int.not_lt, Int.not_le, Nat.not_lt, Nat.not_le, Decidable.not_not, ne_eq] at hc0
      omega

theorem kP_now {c hb made : Nat} {now : Int} {rows : List (Nat × (Int × Int × (Int × Int)))}  : Ct Try.prog 13 [.pointer (some ⟨c, 0, none⟩)] [cl c 109 [.int .i64 now, .int .i64 ((made : Nat) : Int), .pointer (some ⟨hb, 0, none⟩)], kP_h_hpA (.func (.func 42) #[] ([] : List Value).toArray) hb rows made, emp] (fun _ : Unit => .int .i64 now) (fun _ => [cl c 109 [.int .i64 now, .int .i64 ((made : Nat) : Int), .pointer (some ⟨hb, 0, none⟩)], kP_h_hpA (.func (.func 42) #[] ([] : List Value).toArray) hb rows made, emp]) := by
  refine Ct_body (n := 10) Try.func13 rfl rfl rfl fun F w0 Q hret hnorm hp => ?_
  change WC _ _ _ _ _ _ (_ :: _ :: _ :: F)
  refine WC_sr fun K1 hK1 => ?_
  refine WL_rd (Rd_assign rfl) rfl rfl rfl ?_
  refine WL_end hK1 ?_
  refine WC_seq fun K2 hK2 => ?_
  refine WC_sr fun K3 hK3 => ?_
  refine WL_rd (Rd_move rfl) rfl rfl rfl ?_
  refine WL_ac (Ac_call cf46 rfl (hs := kP_made)) rfl rfl rfl ?_
  rintro _ _ ⟨⟨⟩, rfl, hA⟩
  simp only [List.cons_append, List.nil_append] at hA
  subst hA
  refine WL_rd (Rd_not rfl) rfl rfl rfl ?_
  refine WL_end hK3 ?_
  refine WC_condF rfl ?_
  refine WC_skip ?_
  refine Ps_next hK2 ?_
  refine WC_sr fun K4 hK4 => ?_
  refine WL_rd (Rd_move rfl) rfl rfl rfl ?_
  refine WL_rd (Rd_nilCheck rfl) rfl rfl rfl ?_
  refine WL_rd (Rd_fieldAddr rfl fo109_0) rfl rfl rfl ?_
  refine WL_rd (Rd_load rfl tk3) rfl rfl rfl ?_
  refine WL_rd (Rd_assign rfl) rfl rfl rfl ?_
  refine WL_end hK4 ?_
  refine WC_ret ?_
  exact hret.go () (Rs1 rfl rfl)

theorem kP_len {c hb made : Nat} {now : Int} {rows : List (Nat × (Int × Int × (Int × Int)))}  : Ct Try.prog 12 [.pointer (some ⟨c, 0, none⟩)] [cl c 109 [.int .i64 now, .int .i64 ((made : Nat) : Int), .pointer (some ⟨hb, 0, none⟩)], kP_h_hpA (.func (.func 42) #[] ([] : List Value).toArray) hb rows made, emp] (fun _ : Unit => .int .i64 ((rows.length : Nat) : Int)) (fun _ => [cl c 109 [.int .i64 now, .int .i64 ((made : Nat) : Int), .pointer (some ⟨hb, 0, none⟩)], kP_h_hpA (.func (.func 42) #[] ([] : List Value).toArray) hb rows made, emp]) := by
  refine Ct_body (n := 11) Try.func12 rfl rfl rfl fun F w0 Q hret hnorm hp => ?_
  change WC _ _ _ _ _ _ (_ :: _ :: _ :: F)
  refine WC_sr fun K1 hK1 => ?_
  refine WL_rd (Rd_assign rfl) rfl rfl rfl ?_
  refine WL_end hK1 ?_
  refine WC_seq fun K2 hK2 => ?_
  refine WC_sr fun K3 hK3 => ?_
  refine WL_rd (Rd_move rfl) rfl rfl rfl ?_
  refine WL_ac (Ac_call cf46 rfl (hs := kP_made)) rfl rfl rfl ?_
  rintro _ _ ⟨⟨⟩, rfl, hA⟩
  simp only [List.cons_append, List.nil_append] at hA
  subst hA
  refine WL_rd (Rd_not rfl) rfl rfl rfl ?_
  refine WL_end hK3 ?_
  refine WC_condF rfl ?_
  refine WC_skip ?_
  refine Ps_next hK2 ?_
  refine WC_sr fun K4 hK4 => ?_
  refine WL_rd (Rd_move rfl) rfl rfl rfl ?_
  refine WL_rd (Rd_nilCheck rfl) rfl rfl rfl ?_
  refine WL_rd (Rd_fieldAddr rfl fo109_2) rfl rfl rfl ?_
  refine WL_rd (Rd_load rfl tk104) rfl rfl rfl ?_
  refine WL_ac (Ac_call cf47 rfl (hs := kP_h_len_hp (lf := 42) (caps := []))) rfl rfl rfl ?_
  rintro _ _ ⟨⟨⟩, rfl, hA⟩
  simp only [List.cons_append, List.nil_append] at hA
  subst hA
  refine WL_rd (Rd_assign rfl) rfl rfl rfl ?_
  refine WL_end hK4 ?_
  refine WC_ret ?_
  exact hret.go () (Rs1 rfl rfl)

theorem kP_later {c hb made : Nat} {now : Int} {rows : List (Nat × (Int × Int × (Int × Int)))} {tick : Int}  : Ct Try.prog 44 [.pointer (some ⟨c, 0, none⟩), .int .i64 tick] [cl c 109 [.int .i64 now, .int .i64 ((made : Nat) : Int), .pointer (some ⟨hb, 0, none⟩)], kP_h_hpA (.func (.func 42) #[] ([] : List Value).toArray) hb rows made, emp] (fun _ : Unit => .int .i64 (laterM now tick)) (fun _ => [cl c 109 [.int .i64 now, .int .i64 ((made : Nat) : Int), .pointer (some ⟨hb, 0, none⟩)], kP_h_hpA (.func (.func 42) #[] ([] : List Value).toArray) hb rows made, emp]) := by
  refine Ct_body (n := 23) Try.func44 rfl rfl rfl fun F w0 Q hret hnorm hp => ?_
  change WC _ _ _ _ _ _ (_ :: _ :: _ :: F)
  refine WC_sr fun K1 hK1 => ?_
  refine WL_rd (Rd_assign rfl) rfl rfl rfl ?_
  refine WL_end hK1 ?_
  refine WC_seq fun K2 hK2 => ?_
  refine WC_block ?_
  refine WC_sr fun K3 hK3 => ?_
  refine WL_rd (Rd_move rfl) rfl rfl rfl ?_
  refine WL_ac (Ac_call cf46 rfl (hs := kP_made)) rfl rfl rfl ?_
  rintro _ _ ⟨⟨⟩, rfl, hA⟩
  simp only [List.cons_append, List.nil_append] at hA
  subst hA
  refine WL_rd (Rd_not rfl) rfl rfl rfl ?_
  refine WL_rd (Rd_assign rfl) rfl rfl rfl ?_
  refine WL_end hK3 ?_
  refine WC_condF rfl ?_
  refine WC_sr fun K4 hK4 => ?_
  refine WL_rd (Rd_move rfl) rfl rfl rfl ?_
  refine WL_rd (Rd_lss rfl rfl) rfl rfl rfl ?_
  refine WL_rd (Rd_move rfl) rfl rfl rfl ?_
  refine WL_bool 12 rfl (fun hg5 => ?_) (fun hg5 => ?_)
  · try simp only [decide_eq_true_eq, decide_eq_false_iff_not, Bool.not_eq_true', Bool.not_eq_false', Bool.not_eq_true, Bool.not_eq_false, Int.not_lt, Int.not_le, Nat.not_lt, Nat.not_le, Decidable.not_not, ne_eq] at hg5
    refine WL_skip rfl rfl rfl ?_
    refine WL_skip rfl rfl rfl ?_
    refine WL_rd (Rd_pickT rfl rfl) rfl rfl rfl ?_
    refine WL_rd (Rd_assign rfl) rfl rfl rfl ?_
    refine WL_end hK4 ?_
    refine WC_condT rfl ?_
    rw [show laterM now tick = 2 from by unfold laterM; first | (rw [if_pos (by omega)]; done) | rw [if_neg (by omega), if_pos (by omega)] | rw [if_neg (by omega), if_neg (by omega)]] at hret
    refine WC_sr fun K6 hK6 => ?_
    refine WL_rd (Rd_assign rfl) rfl rfl rfl ?_
    refine WL_end hK6 ?_
    refine WC_ret ?_
    exact hret.go () (Rs1 rfl rfl)
  · try simp only [decide_eq_true_eq, decide_eq_false_iff_not, Bool.not_eq_true', Bool.not_eq_false', Bool.not_eq_true, Bool.not_eq_false, Int.not_lt, Int.not_le, Nat.not_lt, Nat.not_le, Decidable.not_not, ne_eq] at hg5
    refine WL_rd (Rd_move rfl) rfl rfl rfl ?_
    refine WL_rd (Rd_gtr rfl rfl) rfl rfl rfl ?_
    refine WL_rd (Rd_pickF rfl rfl) rfl rfl rfl ?_
    refine WL_rd (Rd_assign rfl) rfl rfl rfl ?_
    refine WL_end hK4 ?_
    refine WC_cond rfl (fun hc1 => ?_) (fun hc1 => ?_)
    · try simp only [decide_eq_true_eq, decide_eq_false_iff_not, Bool.not_eq_true', Bool.not_eq_false', Bool.not_eq_true, Bool.not_eq_false, Int.not_lt, Int.not_le, Nat.not_lt, Nat.not_le, Decidable.not_not, ne_eq] at hc1
      rw [show laterM now tick = 2 from by unfold laterM; first | (rw [if_pos (by omega)]; done) | rw [if_neg (by omega), if_pos (by omega)] | rw [if_neg (by omega), if_neg (by omega)]] at hret
      refine WC_sr fun K7 hK7 => ?_
      refine WL_rd (Rd_assign rfl) rfl rfl rfl ?_
      refine WL_end hK7 ?_
      refine WC_ret ?_
      exact hret.go () (Rs1 rfl rfl)
    · try simp only [decide_eq_true_eq, decide_eq_false_iff_not, Bool.not_eq_true', Bool.not_eq_false', Bool.not_eq_true, Bool.not_eq_false, Int.not_lt, Int.not_le, Nat.not_lt, Nat.not_le, Decidable.not_not, ne_eq] at hc1
      refine WC_sr fun K8 hK8 => ?_
      refine WL_rd (Rd_move rfl) rfl rfl rfl ?_
      refine WL_rd (Rd_move rfl) rfl rfl rfl ?_
      refine WL_rd (Rd_nilCheck rfl) rfl rfl rfl ?_
      refine WL_rd (Rd_fieldAddr rfl fo109_0) rfl rfl rfl ?_
      refine WL_rd (Rd_load rfl tk3) rfl rfl rfl ?_
      refine WL_rd (Rd_lss rfl rfl) rfl rfl rfl ?_
      refine WL_rd (Rd_assign rfl) rfl rfl rfl ?_
      refine WL_end hK8 ?_
      refine WC_cond rfl (fun hc2 => ?_) (fun hc2 => ?_)
      · try simp only [decide_eq_true_eq, decide_eq_false_iff_not, Bool.not_eq_true', Bool.not_eq_false', Bool.not_eq_true, Bool.not_eq_false, Int.not_lt, Int.not_le, Nat.not_lt, Nat.not_le, Decidable.not_not, ne_eq] at hc2
        rw [show laterM now tick = 180 from by unfold laterM; first | (rw [if_pos (by omega)]; done) | rw [if_neg (by omega), if_pos (by omega)] | rw [if_neg (by omega), if_neg (by omega)]] at hret
        refine WC_sr fun K9 hK9 => ?_
        refine WL_rd (Rd_assign rfl) rfl rfl rfl ?_
        refine WL_end hK9 ?_
        refine WC_ret ?_
        exact hret.go () (Rs1 rfl rfl)
      · try simp only [decide_eq_true_eq, decide_eq_false_iff_not, Bool.not_eq_true', Bool.not_eq_false', Bool.not_eq_true, Bool.not_eq_false, Int.not_lt, Int.not_le, Nat.not_lt, Nat.not_le, Decidable.not_not, ne_eq] at hc2
        rw [show laterM now tick = 0 from by unfold laterM; first | (rw [if_pos (by omega)]; done) | rw [if_neg (by omega), if_pos (by omega)] | rw [if_neg (by omega), if_neg (by omega)]] at hret
        refine WC_skip ?_
        refine Ps_next hK2 ?_
        refine WC_sr fun K10 hK10 => ?_
        refine WL_rd (Rd_assign rfl) rfl rfl rfl ?_
        refine WL_end hK10 ?_
        refine WC_ret ?_
        exact hret.go () (Rs1 rfl rfl)

theorem kP_set {c hb made : Nat} {now : Int} {rows : List (Nat × (Int × Int × (Int × Int)))} {tick : Int} {v : (Int × Int)} (h0 : laterM now tick = 0 := by assumption) (hm : made ≤ 900000000 := by omega) : Ct Try.prog 11 [.pointer (some ⟨c, 0, none⟩), .int .i64 tick, .agg [.int .i64 v.1, .int .i64 v.2].toArray] [cl c 109 [.int .i64 now, .int .i64 ((made : Nat) : Int), .pointer (some ⟨hb, 0, none⟩)], kP_h_hpA (.func (.func 42) #[] ([] : List Value).toArray) hb rows made, emp] (fun _ : Unit => .tuple #[.int .i64 ((made : Nat) : Int), .int .i64 0]) (fun _ => [cl c 109 [.int .i64 now, .int .i64 ((made + 1 : Nat) : Int), .pointer (some ⟨hb, 0, none⟩)], kP_h_hpA (.func (.func 42) #[] ([] : List Value).toArray) hb (pushM (pl kP_lt) () rows made ((made : Int), tick, v)).1 (made + 1), emp]) := by
  refine Ct_body (n := 41) Try.func11 rfl rfl rfl fun F w0 Q hret hnorm hp => ?_
  change WC _ _ _ _ _ _ (_ :: _ :: _ :: F)
  refine WC_sr fun K1 hK1 => ?_
  refine WL_ac (Ac_box rfl rfl) rfl rfl rfl ?_
  rintro _ _ ⟨b5, rfl, rfl⟩
  refine WL_rd (Rd_assign rfl) rfl rfl rfl ?_
  refine WL_rd (Rd_assign rfl) rfl rfl rfl ?_
  refine WL_end hK1 ?_
  refine WC_seq fun K2 hK2 => ?_
  refine WC_sr fun K3 hK3 => ?_
  refine WL_rd (Rd_move rfl) rfl rfl rfl ?_
  refine WL_rd (Rd_move rfl) rfl rfl rfl ?_
  refine WL_ac (Ac_call cf44 rfl (hs := kP_later)) rfl rfl rfl ?_
  rintro _ _ ⟨⟨⟩, rfl, hA⟩
  simp only [List.cons_append, List.nil_append] at hA
  subst hA
  refine WL_rd (Rd_assign rfl) rfl rfl rfl ?_
  refine WL_end hK3 ?_
  refine WC_sr fun K4 hK4 => ?_
  refine WL_rd (Rd_move rfl) rfl rfl rfl ?_
  refine WL_rd (Rd_isF (Rd_neq rfl rfl)) rfl rfl rfl ?_
  refine WL_end hK4 ?_
  refine WC_condF rfl ?_
  refine WC_skip ?_
  refine Ps_next hK2 ?_
  refine WC_seq fun K5 hK5 => ?_
  refine WC_drawA mix (fun i => ([2, 2, 2, 2, 2, 2, 2, 2, 2, 2, 2, 0, 2, 2, 2, 2, 2] : List Nat).getD i 0) ?_
  refine WJ_takeP 0 rfl (by kernel_rfl) (Rd_move rfl) rfl rfl rfl (hp _ _) ?_
  refine WJ_takeP 1 rfl (by kernel_rfl) (Rd_nilCheck rfl) rfl rfl rfl (hp _ _) ?_
  refine WJ_takeP 2 rfl (by kernel_rfl) (Rd_fieldAddr rfl fo109_2) rfl rfl rfl (hp _ _) ?_
  refine WJ_tk 3 (Rd_load rfl tk104) hp ?_ rfl (by kernel_rfl) rfl rfl rfl
  refine WJ_takeP 4 rfl (by kernel_rfl) (Rd_move rfl) rfl rfl rfl (hp _ _) ?_
  refine WJ_takeP 5 rfl (by kernel_rfl) (Rd_nilCheck rfl) rfl rfl rfl (hp _ _) ?_
  refine WJ_takeP 6 rfl (by kernel_rfl) (Rd_fieldAddr rfl fo109_1) rfl rfl rfl (hp _ _) ?_
  refine WJ_takeP 8 rfl (by kernel_rfl) (Rd_move rfl) rfl rfl rfl (hp _ _) ?_
  refine WJ_all (rs := [7, 9]) (by kernel_rfl) rfl ?_
  refine WI_cons ?_ (WI_cons ?_ (by intro _ h; cases h))
  · skip
    refine WI_rd rfl (Rd_load rfl tk3) rfl rfl rfl (fun h => by cases h) ?_
    refine WJ_all (rs := [9]) (by kernel_rfl) rfl ?_
    refine WI_one ?_
    refine WI_rd rfl (Rd_loadg rfl tk29) rfl rfl rfl (fun h => by cases h) ?_
    refine WJ_takeP 10 rfl (by kernel_rfl) (Rd_build pls35 rfl) rfl rfl rfl (hp _ _) ?_
    refine WJ_all (rs := [11]) (by kernel_rfl) rfl ?_
    refine WI_one ?_
    refine WI_ac rfl (Ac_call cf45 rfl (hs := kP_h_push_hp kP_hcf kP_hless (s := ()) (x := ((made : Int), tick, v)))) rfl rfl rfl rfl ?_
    rintro _ _ ⟨⟨⟩, rfl, hA⟩
    simp only [List.cons_append, List.nil_append] at hA
    subst hA
    refine ⟨(fun h => by cases h), ?_⟩
    refine WJ_takeP 12 rfl (by kernel_rfl) (Rd_move rfl) rfl rfl rfl (hp _ _) ?_
    refine WJ_takeP 13 rfl (by kernel_rfl) (Rd_ext0 rfl) rfl rfl rfl (hp _ _) ?_
    refine WJ_takeP 14 rfl (by kernel_rfl) (Rd_ext1 rfl) rfl rfl rfl (hp _ _) ?_
    refine WJ_takeP 15 rfl (by kernel_rfl) (Rd_assign rfl) rfl rfl rfl (hp _ _) ?_
    refine WJ_takeP 16 rfl (by kernel_rfl) (Rd_assign rfl) rfl rfl rfl (hp _ _) ?_
    refine WJ_done (by kernel_rfl) ?_
    refine Ps_next hK5 ?_
    refine WC_sr fun K6 hK6 => ?_
    refine WL_rd (Rd_move rfl) rfl rfl rfl ?_
    refine WL_rd (Rd_nilCheck rfl) rfl rfl rfl ?_
    refine WL_rd (Rd_fieldAddr rfl fo109_1) rfl rfl rfl ?_
    refine WL_rd (Rd_load rfl tk3) rfl rfl rfl ?_
    refine WL_rd (Rd_addN (j := 1) rfl rfl) rfl rfl rfl ?_
    refine WL_rd (Rd_nilCheck rfl) rfl rfl rfl ?_
    refine WL_rd (Rd_fieldAddr rfl fo109_1) rfl rfl rfl ?_
    refine WL_ac0 (Ac_store1 rfl rfl sz3) rfl rfl ?_
    rintro _ _ rfl
    refine WL_end hK6 ?_
    refine WC_sr fun K7 hK7 => ?_
    refine WL_rd (Rd_move rfl) rfl rfl rfl ?_
    refine WL_rd (Rd_move rfl) rfl rfl rfl ?_
    refine WL_rd (Rd_assign rfl) rfl rfl rfl ?_
    refine WL_rd (Rd_assign rfl) rfl rfl rfl ?_
    refine WL_end hK7 ?_
    refine WC_ret ?_
    exact hret.go () (Rs2 rfl rfl rfl)
  · skip
    refine WI_rd rfl (Rd_loadg rfl tk29) rfl rfl rfl (fun h => by cases h) ?_
    refine WJ_all (rs := [7]) (by kernel_rfl) rfl ?_
    refine WI_one ?_
    refine WI_rd rfl (Rd_load rfl tk3) rfl rfl rfl (fun h => by cases h) ?_
    refine WJ_takeP 10 rfl (by kernel_rfl) (Rd_build pls35 rfl) rfl rfl rfl (hp _ _) ?_
    refine WJ_all (rs := [11]) (by kernel_rfl) rfl ?_
    refine WI_one ?_
    refine WI_ac rfl (Ac_call cf45 rfl (hs := kP_h_push_hp kP_hcf kP_hless (s := ()) (x := ((made : Int), tick, v)))) rfl rfl rfl rfl ?_
    rintro _ _ ⟨⟨⟩, rfl, hA⟩
    simp only [List.cons_append, List.nil_append] at hA
    subst hA
    refine ⟨(fun h => by cases h), ?_⟩
    refine WJ_takeP 12 rfl (by kernel_rfl) (Rd_move rfl) rfl rfl rfl (hp _ _) ?_
    refine WJ_takeP 13 rfl (by kernel_rfl) (Rd_ext0 rfl) rfl rfl rfl (hp _ _) ?_
    refine WJ_takeP 14 rfl (by kernel_rfl) (Rd_ext1 rfl) rfl rfl rfl (hp _ _) ?_
    refine WJ_takeP 15 rfl (by kernel_rfl) (Rd_assign rfl) rfl rfl rfl (hp _ _) ?_
    refine WJ_takeP 16 rfl (by kernel_rfl) (Rd_assign rfl) rfl rfl rfl (hp _ _) ?_
    refine WJ_done (by kernel_rfl) ?_
    refine Ps_next hK5 ?_
    refine WC_sr fun K8 hK8 => ?_
    refine WL_rd (Rd_move rfl) rfl rfl rfl ?_
    refine WL_rd (Rd_nilCheck rfl) rfl rfl rfl ?_
    refine WL_rd (Rd_fieldAddr rfl fo109_1) rfl rfl rfl ?_
    refine WL_rd (Rd_load rfl tk3) rfl rfl rfl ?_
    refine WL_rd (Rd_addN (j := 1) rfl rfl) rfl rfl rfl ?_
    refine WL_rd (Rd_nilCheck rfl) rfl rfl rfl ?_
    refine WL_rd (Rd_fieldAddr rfl fo109_1) rfl rfl rfl ?_
    refine WL_ac0 (Ac_store1 rfl rfl sz3) rfl rfl ?_
    rintro _ _ rfl
    refine WL_end hK8 ?_
    refine WC_sr fun K9 hK9 => ?_
    refine WL_rd (Rd_move rfl) rfl rfl rfl ?_
    refine WL_rd (Rd_move rfl) rfl rfl rfl ?_
    refine WL_rd (Rd_assign rfl) rfl rfl rfl ?_
    refine WL_rd (Rd_assign rfl) rfl rfl rfl ?_
    refine WL_end hK9 ?_
    refine WC_ret ?_
    exact hret.go () (Rs2 rfl rfl rfl)

theorem kP_set_no {c hb made : Nat} {now : Int} {rows : List (Nat × (Int × Int × (Int × Int)))} {tick : Int} {v : (Int × Int)} (h0 : laterM now tick ≠ 0 := by assumption) : Ct Try.prog 11 [.pointer (some ⟨c, 0, none⟩), .int .i64 tick, .agg [.int .i64 v.1, .int .i64 v.2].toArray] [cl c 109 [.int .i64 now, .int .i64 ((made : Nat) : Int), .pointer (some ⟨hb, 0, none⟩)], kP_h_hpA (.func (.func 42) #[] ([] : List Value).toArray) hb rows made, emp] (fun _ : Unit => .tuple #[.int .i64 0, .int .i64 (laterM now tick)]) (fun _ => [cl c 109 [.int .i64 now, .int .i64 ((made : Nat) : Int), .pointer (some ⟨hb, 0, none⟩)], kP_h_hpA (.func (.func 42) #[] ([] : List Value).toArray) hb rows made, emp]) := by
  refine Ct_body (n := 41) Try.func11 rfl rfl rfl fun F w0 Q hret hnorm hp => ?_
  change WC _ _ _ _ _ _ (_ :: _ :: _ :: F)
  refine WC_sr fun K1 hK1 => ?_
  refine WL_ac (Ac_box rfl rfl) rfl rfl rfl ?_
  rintro _ _ ⟨b5, rfl, rfl⟩
  refine WL_rd (Rd_assign rfl) rfl rfl rfl ?_
  refine WL_rd (Rd_assign rfl) rfl rfl rfl ?_
  refine WL_end hK1 ?_
  refine WC_seq fun K2 hK2 => ?_
  refine WC_sr fun K3 hK3 => ?_
  refine WL_rd (Rd_move rfl) rfl rfl rfl ?_
  refine WL_rd (Rd_move rfl) rfl rfl rfl ?_
  refine WL_ac (Ac_call cf44 rfl (hs := kP_later)) rfl rfl rfl ?_
  rintro _ _ ⟨⟨⟩, rfl, hA⟩
  simp only [List.cons_append, List.nil_append] at hA
  subst hA
  refine WL_rd (Rd_assign rfl) rfl rfl rfl ?_
  refine WL_end hK3 ?_
  refine WC_sr fun K4 hK4 => ?_
  refine WL_rd (Rd_move rfl) rfl rfl rfl ?_
  refine WL_rd (Rd_isT (Rd_neq rfl rfl)) rfl rfl rfl ?_
  refine WL_end hK4 ?_
  refine WC_condT rfl ?_
  refine WC_sr fun K5 hK5 => ?_
  refine WL_rd (Rd_move rfl) rfl rfl rfl ?_
  refine WL_rd (Rd_assign rfl) rfl rfl rfl ?_
  refine WL_rd (Rd_assign rfl) rfl rfl rfl ?_
  refine WL_end hK5 ?_
  refine WC_ret ?_
  exact hret.go () (Rs2 rfl rfl rfl)

def kP_setR (now : Int) (rows : List (Nat × (Int × Int × (Int × Int)))) (made : Nat) (tick : Int) (v : (Int × Int)) : List (Nat × (Int × Int × (Int × Int))) := if laterM now tick = 0 then (pushM (pl kP_lt) () rows made (((made : Nat) : Int), tick, v)).1 else rows
def kP_setN (now : Int) (made : Nat) (tick : Int) : Nat := if laterM now tick = 0 then made + 1 else made
def kP_setV (now : Int) (made : Nat) (tick : Int) : Nat := if laterM now tick = 0 then made else 0
theorem kP_set_u {c hb made : Nat} {now : Int} {rows : List (Nat × (Int × Int × (Int × Int)))} {tick : Int} {v : (Int × Int)} (hm : made ≤ 900000000 := by omega) : Ct Try.prog 11 [.pointer (some ⟨c, 0, none⟩), .int .i64 tick, .agg [.int .i64 v.1, .int .i64 v.2].toArray] [cl c 109 [.int .i64 now, .int .i64 ((made : Nat) : Int), .pointer (some ⟨hb, 0, none⟩)], kP_h_hpA (.func (.func 42) #[] ([] : List Value).toArray) hb rows made, emp] (fun _ : Unit => .tuple #[.int .i64 ((kP_setV now made tick : Nat) : Int), .int .i64 (laterM now tick)]) (fun _ => [cl c 109 [.int .i64 now, .int .i64 ((kP_setN now made tick : Nat) : Int), .pointer (some ⟨hb, 0, none⟩)], kP_h_hpA (.func (.func 42) #[] ([] : List Value).toArray) hb (kP_setR now rows made tick v) (kP_setN now made tick), emp]) := by
  unfold kP_setR kP_setN kP_setV
  by_cases h : laterM now tick = 0
  · simp only [if_pos h]; rw [h]; exact kP_set (h0 := h)
  · simp only [if_neg h]; exact kP_set_no (h0 := h)

theorem kP_take {c hb made : Nat} {now : Int} {rows : List (Nat × (Int × Int × (Int × Int)))} {x : Nat × (Int × Int × (Int × Int))} (hx0 : rows[0]? = some x := by assumption) (hm : made ≤ 900000000 := by omega) : Ct Try.prog 15 [.pointer (some ⟨c, 0, none⟩)] [cl c 109 [.int .i64 now, .int .i64 ((made : Nat) : Int), .pointer (some ⟨hb, 0, none⟩)], kP_h_hpA (.func (.func 42) #[] ([] : List Value).toArray) hb rows made, emp] (fun _ : Unit => .tuple #[.agg [.int .i64 x.2.1, .int .i64 x.2.2.1, .int .i64 x.2.2.2.1, .int .i64 x.2.2.2.2].toArray, .bool true]) (fun _ => [cl c 109 [.int .i64 x.2.2.1, .int .i64 ((made : Nat) : Int), .pointer (some ⟨hb, 0, none⟩)], kP_h_hpA (.func (.func 42) #[] ([] : List Value).toArray) hb (takeM (pl kP_lt) () rows 0).1 made, emp]) := by
  refine Ct_body (n := 26) Try.func15 rfl rfl rfl fun F w0 Q hret hnorm hp => ?_
  change WC _ _ _ _ _ _ (_ :: _ :: _ :: F)
  refine WC_sr fun K1 hK1 => ?_
  refine WL_ac (Ac_alloc zr35) rfl rfl rfl ?_
  rintro _ _ ⟨b2, rfl, rfl⟩
  refine WL_rd (Rd_assign rfl) rfl rfl rfl ?_
  refine WL_end hK1 ?_
  refine WC_seq fun K2 hK2 => ?_
  refine WC_sr fun K3 hK3 => ?_
  refine WL_rd (Rd_move rfl) rfl rfl rfl ?_
  refine WL_ac (Ac_call cf46 rfl (hs := kP_made)) rfl rfl rfl ?_
  rintro _ _ ⟨⟨⟩, rfl, hA⟩
  simp only [List.cons_append, List.nil_append] at hA
  subst hA
  refine WL_rd (Rd_not rfl) rfl rfl rfl ?_
  refine WL_end hK3 ?_
  refine WC_condF rfl ?_
  refine WC_skip ?_
  refine Ps_next hK2 ?_
  refine WC_sr fun K4 hK4 => ?_
  refine WL_rd (Rd_move rfl) rfl rfl rfl ?_
  refine WL_rd (Rd_nilCheck rfl) rfl rfl rfl ?_
  refine WL_rd (Rd_fieldAddr rfl fo109_2) rfl rfl rfl ?_
  refine WL_rd (Rd_load rfl tk104) rfl rfl rfl ?_
  refine WL_ac (Ac_call cf49 rfl (hs := kP_h_pop_hp kP_hcf kP_hless (s := ()) (x := x))) rfl rfl rfl ?_
  rintro _ _ ⟨⟨⟩, rfl, hA⟩
  simp only [List.cons_append, List.nil_append] at hA
  subst hA
  refine WL_rd (Rd_move rfl) rfl rfl rfl ?_
  refine WL_rd (Rd_ext0 rfl) rfl rfl rfl ?_
  refine WL_rd (Rd_ext1 rfl) rfl rfl rfl ?_
  refine WL_ac (Ac_alloc zr35) rfl rfl rfl ?_
  rintro _ _ ⟨b4, rfl, rfl⟩
  refine WL_ac0 (Ac_store rfl rfl sz35 (h1 := by simp [Value.cells, Value.oneCell', kS_h_itf, kP_h_itf])) rfl rfl ?_
  rintro _ _ rfl
  refine WL_rd (Rd_assign rfl) rfl rfl rfl ?_
  refine WL_end hK4 ?_
  refine WC_seq fun K5 hK5 => ?_
  refine WC_sr fun K6 hK6 => ?_
  refine WL_rd (Rd_move rfl) rfl rfl rfl ?_
  refine WL_end hK6 ?_
  refine WC_condT rfl ?_
  refine WC_region ?_
  refine WL_rd (Rd_move rfl) rfl rfl rfl ?_
  refine WL_rd (Rd_fieldAddr rfl fo35_1) rfl rfl rfl ?_
  refine WL_rd (Rd_load rfl tk3) rfl rfl rfl ?_
  refine WL_rd (Rd_nilCheck rfl) rfl rfl rfl ?_
  refine WL_rd (Rd_fieldAddr rfl fo109_0) rfl rfl rfl ?_
  refine WL_ac0 (Ac_store1 rfl rfl sz3) rfl rfl ?_
  rintro _ _ rfl
  refine WL_nil ?_
  refine Ps_next hK5 ?_
  refine WC_sr fun K7 hK7 => ?_
  refine WL_rd (Rd_loadg rfl tk35) rfl rfl rfl ?_
  refine WL_rd (Rd_move rfl) rfl rfl rfl ?_
  refine WL_ac0 (Ac_store rfl rfl sz35 (h1 := by simp [Value.cells, Value.oneCell', kS_h_itf, kP_h_itf])) rfl rfl ?_
  rintro _ _ rfl
  refine WL_rd (Rd_assign rfl) rfl rfl rfl ?_
  refine WL_end hK7 ?_
  refine WC_ret ?_
  exact hret.go () (Rs2ct rfl rfl rfl tk35)

theorem kP_take0 {c hb made : Nat} {now : Int}  : Ct Try.prog 15 [.pointer (some ⟨c, 0, none⟩)] [cl c 109 [.int .i64 now, .int .i64 ((made : Nat) : Int), .pointer (some ⟨hb, 0, none⟩)], kP_h_hpA (.func (.func 42) #[] ([] : List Value).toArray) hb [] made, emp] (fun _ : Unit => .tuple #[.agg [.int .i64 0, .int .i64 0, .int .i64 0, .int .i64 0].toArray, .bool false]) (fun _ => [cl c 109 [.int .i64 now, .int .i64 ((made : Nat) : Int), .pointer (some ⟨hb, 0, none⟩)], kP_h_hpA (.func (.func 42) #[] ([] : List Value).toArray) hb [] made, emp]) := by
  refine Ct_body (n := 26) Try.func15 rfl rfl rfl fun F w0 Q hret hnorm hp => ?_
  change WC _ _ _ _ _ _ (_ :: _ :: _ :: F)
  refine WC_sr fun K1 hK1 => ?_
  refine WL_ac (Ac_alloc zr35) rfl rfl rfl ?_
  rintro _ _ ⟨b2, rfl, rfl⟩
  refine WL_rd (Rd_assign rfl) rfl rfl rfl ?_
  refine WL_end hK1 ?_
  refine WC_seq fun K2 hK2 => ?_
  refine WC_sr fun K3 hK3 => ?_
  refine WL_rd (Rd_move rfl) rfl rfl rfl ?_
  refine WL_ac (Ac_call cf46 rfl (hs := kP_made)) rfl rfl rfl ?_
  rintro _ _ ⟨⟨⟩, rfl, hA⟩
  simp only [List.cons_append, List.nil_append] at hA
  subst hA
  refine WL_rd (Rd_not rfl) rfl rfl rfl ?_
  refine WL_end hK3 ?_
  refine WC_condF rfl ?_
  refine WC_skip ?_
  refine Ps_next hK2 ?_
  refine WC_sr fun K4 hK4 => ?_
  refine WL_rd (Rd_move rfl) rfl rfl rfl ?_
  refine WL_rd (Rd_nilCheck rfl) rfl rfl rfl ?_
  refine WL_rd (Rd_fieldAddr rfl fo109_2) rfl rfl rfl ?_
  refine WL_rd (Rd_load rfl tk104) rfl rfl rfl ?_
  refine WL_ac (Ac_call cf49 rfl (hs := kP_h_pop0_hp (lf := 42) (caps := []))) rfl rfl rfl ?_
  rintro _ _ ⟨⟨⟩, rfl, hA⟩
  simp only [List.cons_append, List.nil_append] at hA
  subst hA
  refine WL_rd (Rd_move rfl) rfl rfl rfl ?_
  refine WL_rd (Rd_ext0 rfl) rfl rfl rfl ?_
  refine WL_rd (Rd_ext1 rfl) rfl rfl rfl ?_
  refine WL_ac (Ac_alloc zr35) rfl rfl rfl ?_
  rintro _ _ ⟨b4, rfl, rfl⟩
  refine WL_ac0 (Ac_store rfl rfl sz35 (h1 := by simp [Value.cells, Value.oneCell', kS_h_itf, kP_h_itf])) rfl rfl ?_
  rintro _ _ rfl
  refine WL_rd (Rd_assign rfl) rfl rfl rfl ?_
  refine WL_end hK4 ?_
  refine WC_seq fun K5 hK5 => ?_
  refine WC_sr fun K6 hK6 => ?_
  refine WL_rd (Rd_move rfl) rfl rfl rfl ?_
  refine WL_end hK6 ?_
  refine WC_condF rfl ?_
  refine WC_skip ?_
  refine Ps_next hK5 ?_
  refine WC_sr fun K7 hK7 => ?_
  refine WL_rd (Rd_loadg rfl tk35) rfl rfl rfl ?_
  refine WL_rd (Rd_move rfl) rfl rfl rfl ?_
  refine WL_ac0 (Ac_store rfl rfl sz35 (h1 := by simp [Value.cells, Value.oneCell', kS_h_itf, kP_h_itf])) rfl rfl ?_
  rintro _ _ rfl
  refine WL_rd (Rd_assign rfl) rfl rfl rfl ?_
  refine WL_end hK7 ?_
  refine WC_ret ?_
  exact hret.go () (Rs2ct rfl rfl rfl tk35)

theorem kP_next {c hb made : Nat} {now : Int} {rows : List (Nat × (Int × Int × (Int × Int)))} {x : Nat × (Int × Int × (Int × Int))} (hx0 : rows[0]? = some x := by assumption) : Ct Try.prog 14 [.pointer (some ⟨c, 0, none⟩)] [cl c 109 [.int .i64 now, .int .i64 ((made : Nat) : Int), .pointer (some ⟨hb, 0, none⟩)], kP_h_hpA (.func (.func 42) #[] ([] : List Value).toArray) hb rows made, emp] (fun _ : Unit => .tuple #[.int .i64 x.2.2.1, .bool true]) (fun _ => [cl c 109 [.int .i64 now, .int .i64 ((made : Nat) : Int), .pointer (some ⟨hb, 0, none⟩)], kP_h_hpA (.func (.func 42) #[] ([] : List Value).toArray) hb rows made, emp]) := by
  refine Ct_body (n := 20) Try.func14 rfl rfl rfl fun F w0 Q hret hnorm hp => ?_
  change WC _ _ _ _ _ _ (_ :: _ :: _ :: F)
  refine WC_sr fun K1 hK1 => ?_
  refine WL_rd (Rd_assign rfl) rfl rfl rfl ?_
  refine WL_rd (Rd_assign rfl) rfl rfl rfl ?_
  refine WL_end hK1 ?_
  refine WC_seq fun K2 hK2 => ?_
  refine WC_sr fun K3 hK3 => ?_
  refine WL_rd (Rd_move rfl) rfl rfl rfl ?_
  refine WL_ac (Ac_call cf46 rfl (hs := kP_made)) rfl rfl rfl ?_
  rintro _ _ ⟨⟨⟩, rfl, hA⟩
  simp only [List.cons_append, List.nil_append] at hA
  subst hA
  refine WL_rd (Rd_not rfl) rfl rfl rfl ?_
  refine WL_end hK3 ?_
  refine WC_condF rfl ?_
  refine WC_skip ?_
  refine Ps_next hK2 ?_
  refine WC_sr fun K4 hK4 => ?_
  refine WL_rd (Rd_move rfl) rfl rfl rfl ?_
  refine WL_rd (Rd_nilCheck rfl) rfl rfl rfl ?_
  refine WL_rd (Rd_fieldAddr rfl fo109_2) rfl rfl rfl ?_
  refine WL_rd (Rd_load rfl tk104) rfl rfl rfl ?_
  refine WL_ac (Ac_call cf48 rfl (hs := kP_h_peek_hp (lf := 42) (caps := []) (x := x))) rfl rfl rfl ?_
  rintro _ _ ⟨⟨⟩, rfl, hA⟩
  simp only [List.cons_append, List.nil_append] at hA
  subst hA
  refine WL_rd (Rd_move rfl) rfl rfl rfl ?_
  refine WL_rd (Rd_ext0 rfl) rfl rfl rfl ?_
  refine WL_rd (Rd_ext1 rfl) rfl rfl rfl ?_
  refine WL_ac (Ac_alloc zr35) rfl rfl rfl ?_
  rintro _ _ ⟨b4, rfl, rfl⟩
  refine WL_ac0 (Ac_store rfl rfl sz35 (h1 := by simp [Value.cells, Value.oneCell', kS_h_itf, kP_h_itf])) rfl rfl ?_
  rintro _ _ rfl
  refine WL_rd (Rd_assign rfl) rfl rfl rfl ?_
  refine WL_end hK4 ?_
  refine WC_sr fun K5 hK5 => ?_
  refine WL_rd (Rd_fieldAddr rfl fo35_1) rfl rfl rfl ?_
  refine WL_rd (Rd_load rfl tk3) rfl rfl rfl ?_
  refine WL_rd (Rd_move rfl) rfl rfl rfl ?_
  refine WL_rd (Rd_assign rfl) rfl rfl rfl ?_
  refine WL_rd (Rd_assign rfl) rfl rfl rfl ?_
  refine WL_end hK5 ?_
  refine WC_ret ?_
  exact hret.go () (Rs2 rfl rfl rfl)

theorem kP_next0 {c hb made : Nat} {now : Int}  : Ct Try.prog 14 [.pointer (some ⟨c, 0, none⟩)] [cl c 109 [.int .i64 now, .int .i64 ((made : Nat) : Int), .pointer (some ⟨hb, 0, none⟩)], kP_h_hpA (.func (.func 42) #[] ([] : List Value).toArray) hb [] made, emp] (fun _ : Unit => .tuple #[.int .i64 0, .bool false]) (fun _ => [cl c 109 [.int .i64 now, .int .i64 ((made : Nat) : Int), .pointer (some ⟨hb, 0, none⟩)], kP_h_hpA (.func (.func 42) #[] ([] : List Value).toArray) hb [] made, emp]) := by
  refine Ct_body (n := 20) Try.func14 rfl rfl rfl fun F w0 Q hret hnorm hp => ?_
  change WC _ _ _ _ _ _ (_ :: _ :: _ :: F)
  refine WC_sr fun K1 hK1 => ?_
  refine WL_rd (Rd_assign rfl) rfl rfl rfl ?_
  refine WL_rd (Rd_assign rfl) rfl rfl rfl ?_
  refine WL_end hK1 ?_
  refine WC_seq fun K2 hK2 => ?_
  refine WC_sr fun K3 hK3 => ?_
  refine WL_rd (Rd_move rfl) rfl rfl rfl ?_
  refine WL_ac (Ac_call cf46 rfl (hs := kP_made)) rfl rfl rfl ?_
  rintro _ _ ⟨⟨⟩, rfl, hA⟩
  simp only [List.cons_append, List.nil_append] at hA
  subst hA
  refine WL_rd (Rd_not rfl) rfl rfl rfl ?_
  refine WL_end hK3 ?_
  refine WC_condF rfl ?_
  refine WC_skip ?_
  refine Ps_next hK2 ?_
  refine WC_sr fun K4 hK4 => ?_
  refine WL_rd (Rd_move rfl) rfl rfl rfl ?_
  refine WL_rd (Rd_nilCheck rfl) rfl rfl rfl ?_
  refine WL_rd (Rd_fieldAddr rfl fo109_2) rfl rfl rfl ?_
  refine WL_rd (Rd_load rfl tk104) rfl rfl rfl ?_
  refine WL_ac (Ac_call cf48 rfl (hs := kP_h_peek0_hp (lf := 42) (caps := []))) rfl rfl rfl ?_
  rintro _ _ ⟨⟨⟩, rfl, hA⟩
  simp only [List.cons_append, List.nil_append] at hA
  subst hA
  refine WL_rd (Rd_move rfl) rfl rfl rfl ?_
  refine WL_rd (Rd_ext0 rfl) rfl rfl rfl ?_
  refine WL_rd (Rd_ext1 rfl) rfl rfl rfl ?_
  refine WL_ac (Ac_alloc zr35) rfl rfl rfl ?_
  rintro _ _ ⟨b4, rfl, rfl⟩
  refine WL_ac0 (Ac_store rfl rfl sz35 (h1 := by simp [Value.cells, Value.oneCell', kS_h_itf, kP_h_itf])) rfl rfl ?_
  rintro _ _ rfl
  refine WL_rd (Rd_assign rfl) rfl rfl rfl ?_
  refine WL_end hK4 ?_
  refine WC_sr fun K5 hK5 => ?_
  refine WL_rd (Rd_fieldAddr rfl fo35_1) rfl rfl rfl ?_
  refine WL_rd (Rd_load rfl tk3) rfl rfl rfl ?_
  refine WL_rd (Rd_move rfl) rfl rfl rfl ?_
  refine WL_rd (Rd_assign rfl) rfl rfl rfl ?_
  refine WL_rd (Rd_assign rfl) rfl rfl rfl ?_
  refine WL_end hK5 ?_
  refine WC_ret ?_
  exact hret.go () (Rs2 rfl rfl rfl)

def kP_nxT (rows : List (Nat × (Int × Int × (Int × Int)))) : Int := match rows with | x :: _ => x.2.2.1 | [] => 0
def kP_nxB (rows : List (Nat × (Int × Int × (Int × Int)))) : Bool := match rows with | _ :: _ => true | [] => false
theorem kP_next_ {c hb made : Nat} {now : Int} {rows : List (Nat × (Int × Int × (Int × Int)))} : Ct Try.prog 14 [.pointer (some ⟨c, 0, none⟩)] [cl c 109 [.int .i64 now, .int .i64 ((made : Nat) : Int), .pointer (some ⟨hb, 0, none⟩)], kP_h_hpA (.func (.func 42) #[] ([] : List Value).toArray) hb rows made, emp] (fun _ : Unit => .tuple #[.int .i64 (kP_nxT rows), .bool (kP_nxB rows)]) (fun _ => [cl c 109 [.int .i64 now, .int .i64 ((made : Nat) : Int), .pointer (some ⟨hb, 0, none⟩)], kP_h_hpA (.func (.func 42) #[] ([] : List Value).toArray) hb rows made, emp]) := by
  cases rows with
  | nil => exact kP_next0
  | cons x r => exact kP_next (x := x) (hx0 := rfl)
end Go.Proofs.Ytcemkpiopijbmaa
