/-
  Contracts of functions that the claim reaches, or the logic and the plain laws that they rest on, or the row over them. (Conditions: none beyond the statement.)
-/
import Derived.Test.YtcemkpiopijbmaaCqHS
set_option linter.all false
namespace Go.Proofs.Ytcemkpiopijbmaa
open Go.RowKit Go.SL Go.HpM
set_option maxHeartbeats 1000000
set_option maxRecDepth 20000
set_option linter.all false
theorem cf25 : cfn Try.prog 25 = true := by kernel_rfl
theorem cf43 : cfn Try.prog 43 = true := by kernel_rfl
theorem cf58 : cfn Try.prog 58 = true := by kernel_rfl
theorem cf60 : cfn Try.prog 60 = true := by kernel_rfl
theorem cf61 : cfn Try.prog 61 = true := by kernel_rfl
theorem cf62 : cfn Try.prog 62 = true := by kernel_rfl
theorem cf63 : cfn Try.prog 63 = true := by kernel_rfl
theorem cf78 : cfn Try.prog 78 = true := by kernel_rfl
theorem el62 : el Try.prog 62 = some (3, 32) := by kernel_rfl
theorem fo62_1 : fo Try.prog 62 1 = some (1, 3) := by kernel_rfl
theorem fo121_0 : fo Try.prog 121 0 = some (0, 3) := by kernel_rfl
theorem fo121_1 : fo Try.prog 121 1 = some (1, 3) := by kernel_rfl
theorem fo121_2 : fo Try.prog 121 2 = some (2, 116) := by kernel_rfl
theorem pls62 : pls Try.prog 62 = some ([.int .i64 0, .int .i64 0, .string ⟨#[]⟩], [(0, 1), (1, 1), (2, 1)]) := by kernel_rfl
theorem pls121 : pls Try.prog 121 = some ([.int .i64 0, .int .i64 0, .pointer none], [(0, 1), (1, 1), (2, 1)]) := by kernel_rfl
theorem tk116 : tk Try.prog 116 = some none := by kernel_rfl
theorem ud55 : Try.prog.underlying 55 = some (.pointer 121) := by kernel_rfl
theorem ud65 : Try.prog.underlying 65 = some (.slice 62) := by kernel_rfl
def kS_eD (x : (Int × Int × ByteArray)) : List Value := [.int .i64 x.1, .int .i64 x.2.1, .string x.2.2]
theorem kS_encD : Enc kS_eD 3 := ⟨fun _ => rfl, fun x v hv => by simp only [kS_eD, List.mem_cons, List.not_mem_nil, or_false] at hv; rcases hv with rfl | rfl | rfl <;> rfl⟩
def kS_lt (x y : (Int × Int × ByteArray)) : Bool := decide (x.2.1 < y.2.1)
theorem kS_lt_od : Od kS_lt := by
  unfold kS_lt
  constructor
  · intro x; simp
  · intro x y z; simp; omega
  · intro x y z; simp; omega

def laterM (now tick : Int) : Int := if tick < 0 ∨ 1099511627776 < tick then 2 else if tick < now then 180 else 0
theorem laterM_ok {now tick : Int} : laterM now tick = 0 ↔ 0 ≤ tick ∧ tick ≤ 1099511627776 ∧ now ≤ tick := by
  unfold laterM
  split
  · simp; omega
  · split
    · simp; omega
    · simp; omega

theorem kS_lt_ct {x y : (Int × Int × ByteArray)}  : Ct Try.prog 59 [.agg [.int .i64 x.1, .int .i64 x.2.1, .string x.2.2].toArray, .agg [.int .i64 y.1, .int .i64 y.2.1, .string y.2.2].toArray] [] (fun _ : Unit => .bool (decide (x.2.1 < y.2.1))) (fun _ => []) := by
  refine Ct_body (n := 10) Try.func59 rfl rfl rfl fun F w0 Q hret hnorm hp => ?_
  change WC _ _ _ _ _ _ _ (F)
  refine WC_sr fun K1 hK1 => ?_
  refine WL_ac (Ac_box rfl rfl) rfl rfl rfl ?_
  rintro _ _ ⟨b2, rfl, rfl⟩
  refine WL_ac (Ac_box rfl rfl) rfl rfl rfl ?_
  rintro _ _ ⟨b3, rfl, rfl⟩
  refine WL_rd (Rd_assign rfl) rfl rfl rfl ?_
  refine WL_end hK1 ?_
  refine WC_sr fun K2 hK2 => ?_
  refine WL_rd (Rd_fieldAddr rfl fo62_1) rfl rfl rfl ?_
  refine WL_rd (Rd_load rfl tk3) rfl rfl rfl ?_
  refine WL_rd (Rd_fieldAddr rfl fo62_1) rfl rfl rfl ?_
  refine WL_rd (Rd_load rfl tk3) rfl rfl rfl ?_
  first | refine WL_rd (Rd_lssN rfl rfl) rfl rfl rfl ?_ | refine WL_rd (Rd_lss rfl rfl) rfl rfl rfl ?_
  refine WL_rd (Rd_assign rfl) rfl rfl rfl ?_
  refine WL_end hK2 ?_
  refine WC_ret ?_
  exact hret.go () (Rs1 rfl rfl)

theorem kS_hcf : cfn Try.prog 59 = true := by kernel_rfl
theorem kS_hless : ∀ (s : Unit) (x y : (Int × Int × ByteArray)), Ct Try.prog 59 ([.agg [.int .i64 x.1, .int .i64 x.2.1, .string x.2.2].toArray, .agg [.int .i64 y.1, .int .i64 y.2.1, .string y.2.2].toArray] ++ ([] : List Value)) [emp] (fun _ : Unit => .bool (pl kS_lt s x y).1) (fun _ => [emp]) := fun _ x y => (kS_lt_ct (x := x) (y := y)).frame [emp]

theorem kS_made {c hb : Nat} {x y : Value}  : Ct Try.prog 62 [.pointer (some ⟨c, 0, none⟩)] [cl c 121 [x, y, .pointer (some ⟨hb, 0, none⟩)]] (fun _ : Unit => .bool true) (fun _ => [cl c 121 [x, y, .pointer (some ⟨hb, 0, none⟩)]]) := by
  refine Ct_body (n := 12) Try.func62 rfl rfl rfl fun F w0 Q hret hnorm hp => ?_
  change WC _ _ _ _ _ _ _ (_ :: F)
  refine WC_sr fun K1 hK1 => ?_
  refine WL_rd (Rd_assign rfl) rfl rfl rfl ?_
  refine WL_end hK1 ?_
  refine WC_sr fun K2 hK2 => ?_
  refine WL_rd (Rd_move rfl) rfl rfl rfl ?_
  refine WL_rd (Rd_pne rfl rfl ud55) rfl rfl rfl ?_
  refine WL_rd (Rd_move rfl) rfl rfl rfl ?_
  refine WL_rd (Rd_move rfl) rfl rfl rfl ?_
  refine WL_rd (Rd_nilCheck rfl) rfl rfl rfl ?_
  refine WL_rd (Rd_fieldAddr rfl fo121_2) rfl rfl rfl ?_
  refine WL_rd (Rd_load rfl tk116) rfl rfl rfl ?_
  refine WL_rd (Rd_pne rfl rfl ud116) rfl rfl rfl ?_
  refine WL_rd (Rd_pickT rfl rfl) rfl rfl rfl ?_
  refine WL_rd (Rd_assign rfl) rfl rfl rfl ?_
  refine WL_end hK2 ?_
  refine WC_ret ?_
  exact hret.go () (Rs1 rfl rfl)

theorem kS_new {tick : Int} (h0 : 0 ≤ tick := by omega) (h1 : tick ≤ 1099511627776 := by omega) : Ct Try.prog 23 [.int .i64 tick] [] (fun g : Nat × Nat => .tuple #[.pointer (some ⟨g.1, 0, none⟩), .int .i64 0]) (fun g => [cl g.1 121 [.int .i64 tick, .int .i64 ((0 : Nat) : Int), .pointer (some ⟨g.2, 0, none⟩)], kS_h_hpA (.func (.func 59) #[] ([] : List Value).toArray) g.2 [] 0, emp]) := by
  refine Ct_body (n := 21) Try.func23 rfl rfl rfl fun F w0 Q hret hnorm hp => ?_
  change WC _ _ _ _ _ _ _ (F)
  refine WC_emp ?_
  refine WC_sr fun K1 hK1 => ?_
  refine WL_rd (Rd_assign rfl) rfl rfl rfl ?_
  refine WL_rd (Rd_assign rfl) rfl rfl rfl ?_
  refine WL_end hK1 ?_
  refine WC_seq fun K2 hK2 => ?_
  refine WC_sr fun K3 hK3 => ?_
  refine WL_rd (Rd_move rfl) rfl rfl rfl ?_
  refine WL_rd (Rd_isF (Rd_lss rfl rfl)) rfl rfl rfl ?_
  refine WL_rd (Rd_move rfl) rfl rfl rfl ?_
  refine WL_rd (Rd_move rfl) rfl rfl rfl ?_
  refine WL_rd (Rd_isF (Rd_gtr rfl rfl)) rfl rfl rfl ?_
  refine WL_rd (Rd_pickF rfl rfl) rfl rfl rfl ?_
  refine WL_end hK3 ?_
  refine WC_condF rfl ?_
  refine WC_skip ?_
  refine Ps_next hK2 ?_
  refine WC_sr fun K4 hK4 => ?_
  refine WL_ac (Ac_call cf58 rfl (hs := kS_h_new_hp (lf := 59) (caps := []))) rfl rfl rfl ?_
  rintro _ _ ⟨hb, rfl, hA⟩
  simp only [List.cons_append, List.nil_append] at hA
  replace hA := hA.symm
  subst hA
  refine WL_rd (Rd_move rfl) rfl rfl rfl ?_
  refine WL_rd (Rd_ext0 rfl) rfl rfl rfl ?_
  refine WL_rd (Rd_ext1 rfl) rfl rfl rfl ?_
  refine WL_rd (Rd_assign rfl) rfl rfl rfl ?_
  refine WL_rd (Rd_assign rfl) rfl rfl rfl ?_
  refine WL_end hK4 ?_
  refine WC_sr fun K5 hK5 => ?_
  refine WL_rd (Rd_move rfl) rfl rfl rfl ?_
  refine WL_rd (Rd_move rfl) rfl rfl rfl ?_
  refine WL_rd (Rd_build pls121 rfl) rfl rfl rfl ?_
  refine WL_ac (Ac_box (xs := [.int .i64 tick, .int .i64 ((0 : Nat) : Int), .pointer (some ⟨hb, 0, none⟩)]) rfl rfl) rfl rfl rfl ?_
  rintro _ _ ⟨c1, rfl, rfl⟩
  refine WL_rd (Rd_move rfl) rfl rfl rfl ?_
  refine WL_rd (Rd_assign rfl) rfl rfl rfl ?_
  refine WL_rd (Rd_assign rfl) rfl rfl rfl ?_
  refine WL_end hK5 ?_
  refine WC_ret ?_
  exact hret.go (c1, hb) (Rs2 rfl rfl rfl)

theorem kS_new_bad {tick : Int} (hb : tick < 0 ∨ 1099511627776 < tick) : Ct Try.prog 23 [.int .i64 tick] [] (fun _ : Unit => .tuple #[.pointer none, .int .i64 2]) (fun _ => []) := by
  refine Ct_body (n := 21) Try.func23 rfl rfl rfl fun F w0 Q hret hnorm hp => ?_
  change WC _ _ _ _ _ _ _ (F)
  refine WC_sr fun K1 hK1 => ?_
  refine WL_rd (Rd_assign rfl) rfl rfl rfl ?_
  refine WL_rd (Rd_assign rfl) rfl rfl rfl ?_
  refine WL_end hK1 ?_
  refine WC_seq fun K2 hK2 => ?_
  refine WC_sr fun K3 hK3 => ?_
  refine WL_rd (Rd_move rfl) rfl rfl rfl ?_
  refine WL_rd (Rd_lss rfl rfl) rfl rfl rfl ?_
  refine WL_rd (Rd_move rfl) rfl rfl rfl ?_
  refine WL_bool 8 rfl (fun hg4 => ?_) (fun hg4 => ?_)
  · try simp only [decide_eq_true_eq, decide_eq_false_iff_not, Bool.not_eq_true', Bool.not_eq_false', Bool.not_eq_true, Bool.not_eq_false, Int.not_lt, Int.not_le, Nat.not_lt, Nat.not_le, Decidable.not_not, ne_eq] at hg4
    refine WL_skip rfl rfl rfl ?_
    refine WL_skip rfl rfl rfl ?_
    refine WL_rd (Rd_pickT rfl rfl) rfl rfl rfl ?_
    refine WL_end hK3 ?_
    refine WC_condT rfl ?_
    refine WC_sr fun K5 hK5 => ?_
    refine WL_rd (Rd_assign rfl) rfl rfl rfl ?_
    refine WL_rd (Rd_assign rfl) rfl rfl rfl ?_
    refine WL_end hK5 ?_
    refine WC_ret ?_
    exact hret.go () (Rs2 rfl rfl rfl)
  · try simp only [decide_eq_true_eq, decide_eq_false_iff_not, Bool.not_eq_true', Bool.not_eq_false', Bool.not_eq_true, Bool.not_eq_false, Int.not_lt, Int.not_le, Nat.not_lt, Nat.not_le, Decidable.not_not, ne_eq] at hg4
    refine WL_rd (Rd_move rfl) rfl rfl rfl ?_
    refine WL_rd (Rd_gtr rfl rfl) rfl rfl rfl ?_
    refine WL_rd (Rd_pickF rfl rfl) rfl rfl rfl ?_
    refine WL_end hK3 ?_
    refine WC_cond rfl (fun hc0 => ?_) (fun hc0 => ?_)
    · try simp only [decide_eq_true_eq, decide_eq_false_iff_not, Bool.not_eq_true', Bool.not_eq_false', Bool.not_eq_true, Bool.not_eq_false, Int.not_lt, Int.not_le, Nat.not_lt, Nat.not_le, Decidable.not_not, ne_eq] at hc0
      refine WC_sr fun K6 hK6 => ?_
      refine WL_rd (Rd_assign rfl) rfl rfl rfl ?_
      refine WL_rd (Rd_assign rfl) rfl rfl rfl ?_
      refine WL_end hK6 ?_
      refine WC_ret ?_
      exact hret.go () (Rs2 rfl rfl rfl)
    · try simp only [decide_eq_true_eq, decide_eq_false_iff_not, Bool.not_eq_true', Bool.not_eq_false', Bool.not_eq_true, Bool.not_eq_false, Int.not_lt, Int.not_le, Nat.not_lt, Nat.not_le, Decidable.not_not, ne_eq] at hc0
      omega

theorem kS_now {c hb made : Nat} {now : Int} {rows : List (Nat × (Int × Int × ByteArray))}  : Ct Try.prog 27 [.pointer (some ⟨c, 0, none⟩)] [cl c 121 [.int .i64 now, .int .i64 ((made : Nat) : Int), .pointer (some ⟨hb, 0, none⟩)], kS_h_hpA (.func (.func 59) #[] ([] : List Value).toArray) hb rows made, emp] (fun _ : Unit => .int .i64 now) (fun _ => [cl c 121 [.int .i64 now, .int .i64 ((made : Nat) : Int), .pointer (some ⟨hb, 0, none⟩)], kS_h_hpA (.func (.func 59) #[] ([] : List Value).toArray) hb rows made, emp]) := by
  refine Ct_body (n := 10) Try.func27 rfl rfl rfl fun F w0 Q hret hnorm hp => ?_
  change WC _ _ _ _ _ _ _ (_ :: _ :: _ :: F)
  refine WC_sr fun K1 hK1 => ?_
  refine WL_rd (Rd_assign rfl) rfl rfl rfl ?_
  refine WL_end hK1 ?_
  refine WC_seq fun K2 hK2 => ?_
  refine WC_sr fun K3 hK3 => ?_
  refine WL_rd (Rd_move rfl) rfl rfl rfl ?_
  refine WL_ac (Ac_call cf62 rfl (hs := kS_made)) rfl rfl rfl ?_
  rintro _ _ ⟨⟨⟩, rfl, hA⟩
  simp only [List.cons_append, List.nil_append] at hA
  replace hA := hA.symm
  subst hA
  refine WL_rd (Rd_not rfl) rfl rfl rfl ?_
  refine WL_end hK3 ?_
  refine WC_condF rfl ?_
  refine WC_skip ?_
  refine Ps_next hK2 ?_
  refine WC_sr fun K4 hK4 => ?_
  refine WL_rd (Rd_move rfl) rfl rfl rfl ?_
  refine WL_rd (Rd_nilCheck rfl) rfl rfl rfl ?_
  refine WL_rd (Rd_fieldAddr rfl fo121_0) rfl rfl rfl ?_
  refine WL_rd (Rd_load rfl tk3) rfl rfl rfl ?_
  refine WL_rd (Rd_assign rfl) rfl rfl rfl ?_
  refine WL_end hK4 ?_
  refine WC_ret ?_
  exact hret.go () (Rs1 rfl rfl)

theorem kS_len {c hb made : Nat} {now : Int} {rows : List (Nat × (Int × Int × ByteArray))}  : Ct Try.prog 36 [.pointer (some ⟨c, 0, none⟩)] [cl c 121 [.int .i64 now, .int .i64 ((made : Nat) : Int), .pointer (some ⟨hb, 0, none⟩)], kS_h_hpA (.func (.func 59) #[] ([] : List Value).toArray) hb rows made, emp] (fun _ : Unit => .int .i64 ((rows.length : Nat) : Int)) (fun _ => [cl c 121 [.int .i64 now, .int .i64 ((made : Nat) : Int), .pointer (some ⟨hb, 0, none⟩)], kS_h_hpA (.func (.func 59) #[] ([] : List Value).toArray) hb rows made, emp]) := by
  refine Ct_body (n := 11) Try.func36 rfl rfl rfl fun F w0 Q hret hnorm hp => ?_
  change WC _ _ _ _ _ _ _ (_ :: _ :: _ :: F)
  refine WC_sr fun K1 hK1 => ?_
  refine WL_rd (Rd_assign rfl) rfl rfl rfl ?_
  refine WL_end hK1 ?_
  refine WC_seq fun K2 hK2 => ?_
  refine WC_sr fun K3 hK3 => ?_
  refine WL_rd (Rd_move rfl) rfl rfl rfl ?_
  refine WL_ac (Ac_call cf62 rfl (hs := kS_made)) rfl rfl rfl ?_
  rintro _ _ ⟨⟨⟩, rfl, hA⟩
  simp only [List.cons_append, List.nil_append] at hA
  replace hA := hA.symm
  subst hA
  refine WL_rd (Rd_not rfl) rfl rfl rfl ?_
  refine WL_end hK3 ?_
  refine WC_condF rfl ?_
  refine WC_skip ?_
  refine Ps_next hK2 ?_
  refine WC_sr fun K4 hK4 => ?_
  refine WL_rd (Rd_move rfl) rfl rfl rfl ?_
  refine WL_rd (Rd_nilCheck rfl) rfl rfl rfl ?_
  refine WL_rd (Rd_fieldAddr rfl fo121_2) rfl rfl rfl ?_
  refine WL_rd (Rd_load rfl tk116) rfl rfl rfl ?_
  refine WL_ac (Ac_call cf73 rfl (hs := kS_h_len_hp (lf := 59) (caps := []))) rfl rfl rfl ?_
  rintro _ _ ⟨⟨⟩, rfl, hA⟩
  simp only [List.cons_append, List.nil_append] at hA
  replace hA := hA.symm
  subst hA
  refine WL_rd (Rd_assign rfl) rfl rfl rfl ?_
  refine WL_end hK4 ?_
  refine WC_ret ?_
  exact hret.go () (Rs1 rfl rfl)

theorem kS_later {c hb made : Nat} {now : Int} {rows : List (Nat × (Int × Int × ByteArray))} {tick : Int}  : Ct Try.prog 60 [.pointer (some ⟨c, 0, none⟩), .int .i64 tick] [cl c 121 [.int .i64 now, .int .i64 ((made : Nat) : Int), .pointer (some ⟨hb, 0, none⟩)], kS_h_hpA (.func (.func 59) #[] ([] : List Value).toArray) hb rows made, emp] (fun _ : Unit => .int .i64 (laterM now tick)) (fun _ => [cl c 121 [.int .i64 now, .int .i64 ((made : Nat) : Int), .pointer (some ⟨hb, 0, none⟩)], kS_h_hpA (.func (.func 59) #[] ([] : List Value).toArray) hb rows made, emp]) := by
  refine Ct_body (n := 23) Try.func60 rfl rfl rfl fun F w0 Q hret hnorm hp => ?_
  change WC _ _ _ _ _ _ _ (_ :: _ :: _ :: F)
  refine WC_sr fun K1 hK1 => ?_
  refine WL_rd (Rd_assign rfl) rfl rfl rfl ?_
  refine WL_end hK1 ?_
  refine WC_seq fun K2 hK2 => ?_
  refine WC_block ?_
  refine WC_sr fun K3 hK3 => ?_
  refine WL_rd (Rd_move rfl) rfl rfl rfl ?_
  refine WL_ac (Ac_call cf62 rfl (hs := kS_made)) rfl rfl rfl ?_
  rintro _ _ ⟨⟨⟩, rfl, hA⟩
  simp only [List.cons_append, List.nil_append] at hA
  replace hA := hA.symm
  subst hA
  refine WL_rd (Rd_not rfl) rfl rfl rfl ?_
  refine WL_rd (Rd_assign rfl) rfl rfl rfl ?_
  refine WL_end hK3 ?_
  refine WC_condF rfl ?_
  refine WC_sr fun K4 hK4 => ?_
  refine WL_rd (Rd_move rfl) rfl rfl rfl ?_
  refine WL_rd (Rd_lss rfl rfl) rfl rfl rfl ?_
  refine WL_rd (Rd_move rfl) rfl rfl rfl ?_
  refine WL_bool 12 rfl (fun hg5 => ?_) (fun hg5 => ?_)
  · try simp only [decide_eq_true_eq, decide_eq_false_iff_not, Bool.not_eq_true', Bool.not_eq_false', Bool.not_eq_true, Bool.not_eq_false, Int.not_lt, Int.not_le, Nat.not_lt, Nat.not_le, Decidable.not_not, ne_eq] at hg5
    refine WL_skip rfl rfl rfl ?_
    refine WL_skip rfl rfl rfl ?_
    refine WL_rd (Rd_pickT rfl rfl) rfl rfl rfl ?_
    refine WL_rd (Rd_assign rfl) rfl rfl rfl ?_
    refine WL_end hK4 ?_
    refine WC_condT rfl ?_
    rw [show laterM now tick = 2 from by unfold laterM; first | (rw [if_pos (by omega)]; done) | rw [if_neg (by omega), if_pos (by omega)] | rw [if_neg (by omega), if_neg (by omega)]] at hret
    refine WC_sr fun K6 hK6 => ?_
    refine WL_rd (Rd_assign rfl) rfl rfl rfl ?_
    refine WL_end hK6 ?_
    refine WC_ret ?_
    exact hret.go () (Rs1 rfl rfl)
  · try simp only [decide_eq_true_eq, decide_eq_false_iff_not, Bool.not_eq_true', Bool.not_eq_false', Bool.not_eq_true, Bool.not_eq_false, Int.not_lt, Int.not_le, Nat.not_lt, Nat.not_le, Decidable.not_not, ne_eq] at hg5
    refine WL_rd (Rd_move rfl) rfl rfl rfl ?_
    refine WL_rd (Rd_gtr rfl rfl) rfl rfl rfl ?_
    refine WL_rd (Rd_pickF rfl rfl) rfl rfl rfl ?_
    refine WL_rd (Rd_assign rfl) rfl rfl rfl ?_
    refine WL_end hK4 ?_
    refine WC_cond rfl (fun hc1 => ?_) (fun hc1 => ?_)
    · try simp only [decide_eq_true_eq, decide_eq_false_iff_not, Bool.not_eq_true', Bool.not_eq_false', Bool.not_eq_true, Bool.not_eq_false, Int.not_lt, Int.not_le, Nat.not_lt, Nat.not_le, Decidable.not_not, ne_eq] at hc1
      rw [show laterM now tick = 2 from by unfold laterM; first | (rw [if_pos (by omega)]; done) | rw [if_neg (by omega), if_pos (by omega)] | rw [if_neg (by omega), if_neg (by omega)]] at hret
      refine WC_sr fun K7 hK7 => ?_
      refine WL_rd (Rd_assign rfl) rfl rfl rfl ?_
      refine WL_end hK7 ?_
      refine WC_ret ?_
      exact hret.go () (Rs1 rfl rfl)
    · try simp only [decide_eq_true_eq, decide_eq_false_iff_not, Bool.not_eq_true', Bool.not_eq_false', Bool.not_eq_true, Bool.not_eq_false, Int.not_lt, Int.not_le, Nat.not_lt, Nat.not_le, Decidable.not_not, ne_eq] at hc1
      refine WC_sr fun K8 hK8 => ?_
      refine WL_rd (Rd_move rfl) rfl rfl rfl ?_
      refine WL_rd (Rd_move rfl) rfl rfl rfl ?_
      refine WL_rd (Rd_nilCheck rfl) rfl rfl rfl ?_
      refine WL_rd (Rd_fieldAddr rfl fo121_0) rfl rfl rfl ?_
      refine WL_rd (Rd_load rfl tk3) rfl rfl rfl ?_
      refine WL_rd (Rd_lss rfl rfl) rfl rfl rfl ?_
      refine WL_rd (Rd_assign rfl) rfl rfl rfl ?_
      refine WL_end hK8 ?_
      refine WC_cond rfl (fun hc2 => ?_) (fun hc2 => ?_)
      · try simp only [decide_eq_true_eq, decide_eq_false_iff_not, Bool.not_eq_true', Bool.not_eq_false', Bool.not_eq_true, Bool.not_eq_false, Int.not_lt, Int.not_le, Nat.not_lt, Nat.not_le, Decidable.not_not, ne_eq] at hc2
        rw [show laterM now tick = 180 from by unfold laterM; first | (rw [if_pos (by omega)]; done) | rw [if_neg (by omega), if_pos (by omega)] | rw [if_neg (by omega), if_neg (by omega)]] at hret
        refine WC_sr fun K9 hK9 => ?_
        refine WL_rd (Rd_assign rfl) rfl rfl rfl ?_
        refine WL_end hK9 ?_
        refine WC_ret ?_
        exact hret.go () (Rs1 rfl rfl)
      · try simp only [decide_eq_true_eq, decide_eq_false_iff_not, Bool.not_eq_true', Bool.not_eq_false', Bool.not_eq_true, Bool.not_eq_false, Int.not_lt, Int.not_le, Nat.not_lt, Nat.not_le, Decidable.not_not, ne_eq] at hc2
        rw [show laterM now tick = 0 from by unfold laterM; first | (rw [if_pos (by omega)]; done) | rw [if_neg (by omega), if_pos (by omega)] | rw [if_neg (by omega), if_neg (by omega)]] at hret
        refine WC_skip ?_
        refine Ps_next hK2 ?_
        refine WC_sr fun K10 hK10 => ?_
        refine WL_rd (Rd_assign rfl) rfl rfl rfl ?_
        refine WL_end hK10 ?_
        refine WC_ret ?_
        exact hret.go () (Rs1 rfl rfl)

theorem kS_set {c hb made : Nat} {now : Int} {rows : List (Nat × (Int × Int × ByteArray))} {tick : Int} {v : ByteArray} (h0 : laterM now tick = 0 := by assumption) (hm : made ≤ 900000000 := by omega) : Ct Try.prog 24 [.pointer (some ⟨c, 0, none⟩), .int .i64 tick, .string v] [cl c 121 [.int .i64 now, .int .i64 ((made : Nat) : Int), .pointer (some ⟨hb, 0, none⟩)], kS_h_hpA (.func (.func 59) #[] ([] : List Value).toArray) hb rows made, emp] (fun _ : Unit => .tuple #[.int .i64 ((made : Nat) : Int), .int .i64 0]) (fun _ => [cl c 121 [.int .i64 now, .int .i64 ((made + 1 : Nat) : Int), .pointer (some ⟨hb, 0, none⟩)], kS_h_hpA (.func (.func 59) #[] ([] : List Value).toArray) hb (pushM (pl kS_lt) () rows made ((made : Int), tick, v)).1 (made + 1), emp]) := by
  refine Ct_body (n := 41) Try.func24 rfl rfl rfl fun F w0 Q hret hnorm hp => ?_
  change WC _ _ _ _ _ _ _ (_ :: _ :: _ :: F)
  refine WC_sr fun K1 hK1 => ?_
  refine WL_rd (Rd_assign rfl) rfl rfl rfl ?_
  refine WL_rd (Rd_assign rfl) rfl rfl rfl ?_
  refine WL_end hK1 ?_
  refine WC_seq fun K2 hK2 => ?_
  refine WC_sr fun K3 hK3 => ?_
  refine WL_rd (Rd_move rfl) rfl rfl rfl ?_
  refine WL_rd (Rd_move rfl) rfl rfl rfl ?_
  refine WL_ac (Ac_call cf60 rfl (hs := kS_later)) rfl rfl rfl ?_
  rintro _ _ ⟨⟨⟩, rfl, hA⟩
  simp only [List.cons_append, List.nil_append] at hA
  replace hA := hA.symm
  subst hA
  refine WL_rd (Rd_assign rfl) rfl rfl rfl ?_
  refine WL_end hK3 ?_
  refine WC_sr fun K4 hK4 => ?_
  refine WL_rd (Rd_move rfl) rfl rfl rfl ?_
  refine WL_rd (Rd_isF (Rd_neq rfl rfl)) rfl rfl rfl ?_
  refine WL_end hK4 ?_
  refine WC_condF rfl ?_
  refine WC_skip ?_
  refine Ps_next hK2 ?_
  refine WC_seq fun K5 hK5 => ?_
  refine WC_drawA mix (fun i => ([2, 2, 2, 2, 2, 2, 2, 2, 2, 2, 2, 0, 2, 2, 2, 2, 2] : List Nat).getD i 0) ?_
  refine WJ_takeP 0 rfl (by kernel_rfl) (Rd_move rfl) rfl rfl rfl (hp _ _) ?_
  refine WJ_takeP 1 rfl (by kernel_rfl) (Rd_nilCheck rfl) rfl rfl rfl (hp _ _) ?_
  refine WJ_takeP 2 rfl (by kernel_rfl) (Rd_fieldAddr rfl fo121_2) rfl rfl rfl (hp _ _) ?_
  refine WJ_tk 3 (Rd_load rfl tk116) hp ?_ rfl (by kernel_rfl) rfl rfl rfl
  refine WJ_takeP 4 rfl (by kernel_rfl) (Rd_move rfl) rfl rfl rfl (hp _ _) ?_
  refine WJ_takeP 5 rfl (by kernel_rfl) (Rd_nilCheck rfl) rfl rfl rfl (hp _ _) ?_
  refine WJ_takeP 6 rfl (by kernel_rfl) (Rd_fieldAddr rfl fo121_1) rfl rfl rfl (hp _ _) ?_
  refine WJ_takeP 8 rfl (by kernel_rfl) (Rd_move rfl) rfl rfl rfl (hp _ _) ?_
  refine WJ_takeP 9 rfl (by kernel_rfl) (Rd_move rfl) rfl rfl rfl (hp _ _) ?_
  refine WJ_all (rs := [7]) (by kernel_rfl) rfl ?_
  refine WI_one ?_
  refine WI_rd rfl (Rd_load rfl tk3) rfl rfl rfl (fun h => by cases h) ?_
  refine WJ_takeP 10 rfl (by kernel_rfl) (Rd_build pls62 rfl) rfl rfl rfl (hp _ _) ?_
  refine WJ_all (rs := [11]) (by kernel_rfl) rfl ?_
  refine WI_one ?_
  refine WI_ac rfl (Ac_call cf61 rfl (hs := kS_h_push_hp kS_hcf kS_hless (s := ()) (x := ((made : Int), tick, v)))) rfl rfl rfl rfl ?_
  rintro _ _ ⟨⟨⟩, rfl, hA⟩
  simp only [List.cons_append, List.nil_append] at hA
  replace hA := hA.symm
  subst hA
  refine ⟨(fun h => by cases h), ?_⟩
  refine WJ_takeP 12 rfl (by kernel_rfl) (Rd_move rfl) rfl rfl rfl (hp _ _) ?_
  refine WJ_takeP 13 rfl (by kernel_rfl) (Rd_ext0 rfl) rfl rfl rfl (hp _ _) ?_
  refine WJ_takeP 14 rfl (by kernel_rfl) (Rd_ext1 rfl) rfl rfl rfl (hp _ _) ?_
  refine WJ_takeP 15 rfl (by kernel_rfl) (Rd_assign rfl) rfl rfl rfl (hp _ _) ?_
  refine WJ_takeP 16 rfl (by kernel_rfl) (Rd_assign rfl) rfl rfl rfl (hp _ _) ?_
  refine WJ_done (by kernel_rfl) ?_
  refine Ps_next hK5 ?_
  refine WC_sr fun K6 hK6 => ?_
  refine WL_rd (Rd_move rfl) rfl rfl rfl ?_
  refine WL_rd (Rd_nilCheck rfl) rfl rfl rfl ?_
  refine WL_rd (Rd_fieldAddr rfl fo121_1) rfl rfl rfl ?_
  refine WL_rd (Rd_load rfl tk3) rfl rfl rfl ?_
  refine WL_rd (Rd_addN (j := 1) rfl rfl) rfl rfl rfl ?_
  refine WL_rd (Rd_nilCheck rfl) rfl rfl rfl ?_
  refine WL_rd (Rd_fieldAddr rfl fo121_1) rfl rfl rfl ?_
  refine WL_ac0 (Ac_store1 rfl rfl sz3) rfl rfl ?_
  rintro _ _ rfl
  refine WL_end hK6 ?_
  refine WC_sr fun K7 hK7 => ?_
  refine WL_rd (Rd_move rfl) rfl rfl rfl ?_
  refine WL_rd (Rd_move rfl) rfl rfl rfl ?_
  refine WL_rd (Rd_assign rfl) rfl rfl rfl ?_
  refine WL_rd (Rd_assign rfl) rfl rfl rfl ?_
  refine WL_end hK7 ?_
  refine WC_ret ?_
  exact hret.go () (Rs2 rfl rfl rfl)

theorem kS_set_no {c hb made : Nat} {now : Int} {rows : List (Nat × (Int × Int × ByteArray))} {tick : Int} {v : ByteArray} (h0 : laterM now tick ≠ 0 := by assumption) : Ct Try.prog 24 [.pointer (some ⟨c, 0, none⟩), .int .i64 tick, .string v] [cl c 121 [.int .i64 now, .int .i64 ((made : Nat) : Int), .pointer (some ⟨hb, 0, none⟩)], kS_h_hpA (.func (.func 59) #[] ([] : List Value).toArray) hb rows made, emp] (fun _ : Unit => .tuple #[.int .i64 0, .int .i64 (laterM now tick)]) (fun _ => [cl c 121 [.int .i64 now, .int .i64 ((made : Nat) : Int), .pointer (some ⟨hb, 0, none⟩)], kS_h_hpA (.func (.func 59) #[] ([] : List Value).toArray) hb rows made, emp]) := by
  refine Ct_body (n := 41) Try.func24 rfl rfl rfl fun F w0 Q hret hnorm hp => ?_
  change WC _ _ _ _ _ _ _ (_ :: _ :: _ :: F)
  refine WC_sr fun K1 hK1 => ?_
  refine WL_rd (Rd_assign rfl) rfl rfl rfl ?_
  refine WL_rd (Rd_assign rfl) rfl rfl rfl ?_
  refine WL_end hK1 ?_
  refine WC_seq fun K2 hK2 => ?_
  refine WC_sr fun K3 hK3 => ?_
  refine WL_rd (Rd_move rfl) rfl rfl rfl ?_
  refine WL_rd (Rd_move rfl) rfl rfl rfl ?_
  refine WL_ac (Ac_call cf60 rfl (hs := kS_later)) rfl rfl rfl ?_
  rintro _ _ ⟨⟨⟩, rfl, hA⟩
  simp only [List.cons_append, List.nil_append] at hA
  replace hA := hA.symm
  subst hA
  refine WL_rd (Rd_assign rfl) rfl rfl rfl ?_
  refine WL_end hK3 ?_
  refine WC_sr fun K4 hK4 => ?_
  refine WL_rd (Rd_move rfl) rfl rfl rfl ?_
  refine WL_rd (Rd_isT (Rd_neq rfl rfl)) rfl rfl rfl ?_
  refine WL_end hK4 ?_
  refine WC_condT rfl ?_
  refine WC_sr fun K5 hK5 => ?_
  refine WL_rd (Rd_move rfl) rfl rfl rfl ?_
  refine WL_rd (Rd_assign rfl) rfl rfl rfl ?_
  refine WL_rd (Rd_assign rfl) rfl rfl rfl ?_
  refine WL_end hK5 ?_
  refine WC_ret ?_
  exact hret.go () (Rs2 rfl rfl rfl)

def kS_setR (now : Int) (rows : List (Nat × (Int × Int × ByteArray))) (made : Nat) (tick : Int) (v : ByteArray) : List (Nat × (Int × Int × ByteArray)) := if laterM now tick = 0 then (pushM (pl kS_lt) () rows made (((made : Nat) : Int), tick, v)).1 else rows
def kS_setN (now : Int) (made : Nat) (tick : Int) : Nat := if laterM now tick = 0 then made + 1 else made
def kS_setV (now : Int) (made : Nat) (tick : Int) : Nat := if laterM now tick = 0 then made else 0
theorem kS_set_u {c hb made : Nat} {now : Int} {rows : List (Nat × (Int × Int × ByteArray))} {tick : Int} {v : ByteArray} (hm : made ≤ 900000000 := by omega) : Ct Try.prog 24 [.pointer (some ⟨c, 0, none⟩), .int .i64 tick, .string v] [cl c 121 [.int .i64 now, .int .i64 ((made : Nat) : Int), .pointer (some ⟨hb, 0, none⟩)], kS_h_hpA (.func (.func 59) #[] ([] : List Value).toArray) hb rows made, emp] (fun _ : Unit => .tuple #[.int .i64 ((kS_setV now made tick : Nat) : Int), .int .i64 (laterM now tick)]) (fun _ => [cl c 121 [.int .i64 now, .int .i64 ((kS_setN now made tick : Nat) : Int), .pointer (some ⟨hb, 0, none⟩)], kS_h_hpA (.func (.func 59) #[] ([] : List Value).toArray) hb (kS_setR now rows made tick v) (kS_setN now made tick), emp]) := by
  unfold kS_setR kS_setN kS_setV
  by_cases h : laterM now tick = 0
  · simp only [if_pos h]; rw [h]; exact kS_set (h0 := h)
  · simp only [if_neg h]; exact kS_set_no (h0 := h)

theorem kS_take {c hb made : Nat} {now : Int} {rows : List (Nat × (Int × Int × ByteArray))} {x : Nat × (Int × Int × ByteArray)} (hx0 : rows[0]? = some x := by assumption) (hm : made ≤ 900000000 := by omega) : Ct Try.prog 25 [.pointer (some ⟨c, 0, none⟩)] [cl c 121 [.int .i64 now, .int .i64 ((made : Nat) : Int), .pointer (some ⟨hb, 0, none⟩)], kS_h_hpA (.func (.func 59) #[] ([] : List Value).toArray) hb rows made, emp] (fun _ : Unit => .tuple #[.agg [.int .i64 x.2.1, .int .i64 x.2.2.1, .string x.2.2.2].toArray, .bool true]) (fun _ => [cl c 121 [.int .i64 x.2.2.1, .int .i64 ((made : Nat) : Int), .pointer (some ⟨hb, 0, none⟩)], kS_h_hpA (.func (.func 59) #[] ([] : List Value).toArray) hb (takeM (pl kS_lt) () rows 0).1 made, emp]) := by
  refine Ct_body (n := 26) Try.func25 rfl rfl rfl fun F w0 Q hret hnorm hp => ?_
  change WC _ _ _ _ _ _ _ (_ :: _ :: _ :: F)
  refine WC_sr fun K1 hK1 => ?_
  refine WL_ac (Ac_alloc zr62) rfl rfl rfl ?_
  rintro _ _ ⟨b2, rfl, rfl⟩
  refine WL_rd (Rd_assign rfl) rfl rfl rfl ?_
  refine WL_end hK1 ?_
  refine WC_seq fun K2 hK2 => ?_
  refine WC_sr fun K3 hK3 => ?_
  refine WL_rd (Rd_move rfl) rfl rfl rfl ?_
  refine WL_ac (Ac_call cf62 rfl (hs := kS_made)) rfl rfl rfl ?_
  rintro _ _ ⟨⟨⟩, rfl, hA⟩
  simp only [List.cons_append, List.nil_append] at hA
  replace hA := hA.symm
  subst hA
  refine WL_rd (Rd_not rfl) rfl rfl rfl ?_
  refine WL_end hK3 ?_
  refine WC_condF rfl ?_
  refine WC_skip ?_
  refine Ps_next hK2 ?_
  refine WC_sr fun K4 hK4 => ?_
  refine WL_rd (Rd_move rfl) rfl rfl rfl ?_
  refine WL_rd (Rd_nilCheck rfl) rfl rfl rfl ?_
  refine WL_rd (Rd_fieldAddr rfl fo121_2) rfl rfl rfl ?_
  refine WL_rd (Rd_load rfl tk116) rfl rfl rfl ?_
  refine WL_ac (Ac_call cf63 rfl (hs := kS_h_pop_hp kS_hcf kS_hless (s := ()) (x := x))) rfl rfl rfl ?_
  rintro _ _ ⟨⟨⟩, rfl, hA⟩
  simp only [List.cons_append, List.nil_append] at hA
  replace hA := hA.symm
  subst hA
  refine WL_rd (Rd_move rfl) rfl rfl rfl ?_
  refine WL_rd (Rd_ext0 rfl) rfl rfl rfl ?_
  refine WL_rd (Rd_ext1 rfl) rfl rfl rfl ?_
  refine WL_ac (Ac_alloc zr62) rfl rfl rfl ?_
  rintro _ _ ⟨b4, rfl, rfl⟩
  refine WL_ac0 (Ac_store rfl rfl sz62 (h1 := by simp [Value.cells, Value.oneCell', kS_h_itf])) rfl rfl ?_
  rintro _ _ rfl
  refine WL_rd (Rd_assign rfl) rfl rfl rfl ?_
  refine WL_end hK4 ?_
  refine WC_seq fun K5 hK5 => ?_
  refine WC_sr fun K6 hK6 => ?_
  refine WL_rd (Rd_move rfl) rfl rfl rfl ?_
  refine WL_end hK6 ?_
  refine WC_condT rfl ?_
  refine WC_region ?_
  refine WL_rd (Rd_move rfl) rfl rfl rfl ?_
  refine WL_rd (Rd_fieldAddr rfl fo62_1) rfl rfl rfl ?_
  refine WL_rd (Rd_load rfl tk3) rfl rfl rfl ?_
  refine WL_rd (Rd_nilCheck rfl) rfl rfl rfl ?_
  refine WL_rd (Rd_fieldAddr rfl fo121_0) rfl rfl rfl ?_
  refine WL_ac0 (Ac_store1 rfl rfl sz3) rfl rfl ?_
  rintro _ _ rfl
  refine WL_nil ?_
  refine Ps_next hK5 ?_
  refine WC_sr fun K7 hK7 => ?_
  refine WL_rd (Rd_loadg rfl tk62) rfl rfl rfl ?_
  refine WL_rd (Rd_move rfl) rfl rfl rfl ?_
  refine WL_ac0 (Ac_store rfl rfl sz62 (h1 := by simp [Value.cells, Value.oneCell', kS_h_itf])) rfl rfl ?_
  rintro _ _ rfl
  refine WL_rd (Rd_assign rfl) rfl rfl rfl ?_
  refine WL_end hK7 ?_
  refine WC_ret ?_
  exact hret.go () (Rs2ct rfl rfl rfl tk62)

theorem kS_take0 {c hb made : Nat} {now : Int}  : Ct Try.prog 25 [.pointer (some ⟨c, 0, none⟩)] [cl c 121 [.int .i64 now, .int .i64 ((made : Nat) : Int), .pointer (some ⟨hb, 0, none⟩)], kS_h_hpA (.func (.func 59) #[] ([] : List Value).toArray) hb [] made, emp] (fun _ : Unit => .tuple #[.agg [.int .i64 0, .int .i64 0, .string ⟨#[]⟩].toArray, .bool false]) (fun _ => [cl c 121 [.int .i64 now, .int .i64 ((made : Nat) : Int), .pointer (some ⟨hb, 0, none⟩)], kS_h_hpA (.func (.func 59) #[] ([] : List Value).toArray) hb [] made, emp]) := by
  refine Ct_body (n := 26) Try.func25 rfl rfl rfl fun F w0 Q hret hnorm hp => ?_
  change WC _ _ _ _ _ _ _ (_ :: _ :: _ :: F)
  refine WC_sr fun K1 hK1 => ?_
  refine WL_ac (Ac_alloc zr62) rfl rfl rfl ?_
  rintro _ _ ⟨b2, rfl, rfl⟩
  refine WL_rd (Rd_assign rfl) rfl rfl rfl ?_
  refine WL_end hK1 ?_
  refine WC_seq fun K2 hK2 => ?_
  refine WC_sr fun K3 hK3 => ?_
  refine WL_rd (Rd_move rfl) rfl rfl rfl ?_
  refine WL_ac (Ac_call cf62 rfl (hs := kS_made)) rfl rfl rfl ?_
  rintro _ _ ⟨⟨⟩, rfl, hA⟩
  simp only [List.cons_append, List.nil_append] at hA
  replace hA := hA.symm
  subst hA
  refine WL_rd (Rd_not rfl) rfl rfl rfl ?_
  refine WL_end hK3 ?_
  refine WC_condF rfl ?_
  refine WC_skip ?_
  refine Ps_next hK2 ?_
  refine WC_sr fun K4 hK4 => ?_
  refine WL_rd (Rd_move rfl) rfl rfl rfl ?_
  refine WL_rd (Rd_nilCheck rfl) rfl rfl rfl ?_
  refine WL_rd (Rd_fieldAddr rfl fo121_2) rfl rfl rfl ?_
  refine WL_rd (Rd_load rfl tk116) rfl rfl rfl ?_
  refine WL_ac (Ac_call cf63 rfl (hs := kS_h_pop0_hp (lf := 59) (caps := []))) rfl rfl rfl ?_
  rintro _ _ ⟨⟨⟩, rfl, hA⟩
  simp only [List.cons_append, List.nil_append] at hA
  replace hA := hA.symm
  subst hA
  refine WL_rd (Rd_move rfl) rfl rfl rfl ?_
  refine WL_rd (Rd_ext0 rfl) rfl rfl rfl ?_
  refine WL_rd (Rd_ext1 rfl) rfl rfl rfl ?_
  refine WL_ac (Ac_alloc zr62) rfl rfl rfl ?_
  rintro _ _ ⟨b4, rfl, rfl⟩
  refine WL_ac0 (Ac_store rfl rfl sz62 (h1 := by simp [Value.cells, Value.oneCell', kS_h_itf])) rfl rfl ?_
  rintro _ _ rfl
  refine WL_rd (Rd_assign rfl) rfl rfl rfl ?_
  refine WL_end hK4 ?_
  refine WC_seq fun K5 hK5 => ?_
  refine WC_sr fun K6 hK6 => ?_
  refine WL_rd (Rd_move rfl) rfl rfl rfl ?_
  refine WL_end hK6 ?_
  refine WC_condF rfl ?_
  refine WC_skip ?_
  refine Ps_next hK5 ?_
  refine WC_sr fun K7 hK7 => ?_
  refine WL_rd (Rd_loadg rfl tk62) rfl rfl rfl ?_
  refine WL_rd (Rd_move rfl) rfl rfl rfl ?_
  refine WL_ac0 (Ac_store rfl rfl sz62 (h1 := by simp [Value.cells, Value.oneCell', kS_h_itf])) rfl rfl ?_
  rintro _ _ rfl
  refine WL_rd (Rd_assign rfl) rfl rfl rfl ?_
  refine WL_end hK7 ?_
  refine WC_ret ?_
  exact hret.go () (Rs2ct rfl rfl rfl tk62)

theorem kS_next {c hb made : Nat} {now : Int} {rows : List (Nat × (Int × Int × ByteArray))} {x : Nat × (Int × Int × ByteArray)} (hx0 : rows[0]? = some x := by assumption) : Ct Try.prog 43 [.pointer (some ⟨c, 0, none⟩)] [cl c 121 [.int .i64 now, .int .i64 ((made : Nat) : Int), .pointer (some ⟨hb, 0, none⟩)], kS_h_hpA (.func (.func 59) #[] ([] : List Value).toArray) hb rows made, emp] (fun _ : Unit => .tuple #[.int .i64 x.2.2.1, .bool true]) (fun _ => [cl c 121 [.int .i64 now, .int .i64 ((made : Nat) : Int), .pointer (some ⟨hb, 0, none⟩)], kS_h_hpA (.func (.func 59) #[] ([] : List Value).toArray) hb rows made, emp]) := by
  refine Ct_body (n := 20) Try.func43 rfl rfl rfl fun F w0 Q hret hnorm hp => ?_
  change WC _ _ _ _ _ _ _ (_ :: _ :: _ :: F)
  refine WC_sr fun K1 hK1 => ?_
  refine WL_rd (Rd_assign rfl) rfl rfl rfl ?_
  refine WL_rd (Rd_assign rfl) rfl rfl rfl ?_
  refine WL_end hK1 ?_
  refine WC_seq fun K2 hK2 => ?_
  refine WC_sr fun K3 hK3 => ?_
  refine WL_rd (Rd_move rfl) rfl rfl rfl ?_
  refine WL_ac (Ac_call cf62 rfl (hs := kS_made)) rfl rfl rfl ?_
  rintro _ _ ⟨⟨⟩, rfl, hA⟩
  simp only [List.cons_append, List.nil_append] at hA
  replace hA := hA.symm
  subst hA
  refine WL_rd (Rd_not rfl) rfl rfl rfl ?_
  refine WL_end hK3 ?_
  refine WC_condF rfl ?_
  refine WC_skip ?_
  refine Ps_next hK2 ?_
  refine WC_sr fun K4 hK4 => ?_
  refine WL_rd (Rd_move rfl) rfl rfl rfl ?_
  refine WL_rd (Rd_nilCheck rfl) rfl rfl rfl ?_
  refine WL_rd (Rd_fieldAddr rfl fo121_2) rfl rfl rfl ?_
  refine WL_rd (Rd_load rfl tk116) rfl rfl rfl ?_
  refine WL_ac (Ac_call cf78 rfl (hs := kS_h_peek_hp (lf := 59) (caps := []) (x := x))) rfl rfl rfl ?_
  rintro _ _ ⟨⟨⟩, rfl, hA⟩
  simp only [List.cons_append, List.nil_append] at hA
  replace hA := hA.symm
  subst hA
  refine WL_rd (Rd_move rfl) rfl rfl rfl ?_
  refine WL_rd (Rd_ext0 rfl) rfl rfl rfl ?_
  refine WL_rd (Rd_ext1 rfl) rfl rfl rfl ?_
  refine WL_ac (Ac_alloc zr62) rfl rfl rfl ?_
  rintro _ _ ⟨b4, rfl, rfl⟩
  refine WL_ac0 (Ac_store rfl rfl sz62 (h1 := by simp [Value.cells, Value.oneCell', kS_h_itf])) rfl rfl ?_
  rintro _ _ rfl
  refine WL_rd (Rd_assign rfl) rfl rfl rfl ?_
  refine WL_end hK4 ?_
  refine WC_sr fun K5 hK5 => ?_
  refine WL_rd (Rd_fieldAddr rfl fo62_1) rfl rfl rfl ?_
  refine WL_rd (Rd_load rfl tk3) rfl rfl rfl ?_
  refine WL_rd (Rd_move rfl) rfl rfl rfl ?_
  refine WL_rd (Rd_assign rfl) rfl rfl rfl ?_
  refine WL_rd (Rd_assign rfl) rfl rfl rfl ?_
  refine WL_end hK5 ?_
  refine WC_ret ?_
  exact hret.go () (Rs2 rfl rfl rfl)

theorem kS_next0 {c hb made : Nat} {now : Int}  : Ct Try.prog 43 [.pointer (some ⟨c, 0, none⟩)] [cl c 121 [.int .i64 now, .int .i64 ((made : Nat) : Int), .pointer (some ⟨hb, 0, none⟩)], kS_h_hpA (.func (.func 59) #[] ([] : List Value).toArray) hb [] made, emp] (fun _ : Unit => .tuple #[.int .i64 0, .bool false]) (fun _ => [cl c 121 [.int .i64 now, .int .i64 ((made : Nat) : Int), .pointer (some ⟨hb, 0, none⟩)], kS_h_hpA (.func (.func 59) #[] ([] : List Value).toArray) hb [] made, emp]) := by
  refine Ct_body (n := 20) Try.func43 rfl rfl rfl fun F w0 Q hret hnorm hp => ?_
  change WC _ _ _ _ _ _ _ (_ :: _ :: _ :: F)
  refine WC_sr fun K1 hK1 => ?_
  refine WL_rd (Rd_assign rfl) rfl rfl rfl ?_
  refine WL_rd (Rd_assign rfl) rfl rfl rfl ?_
  refine WL_end hK1 ?_
  refine WC_seq fun K2 hK2 => ?_
  refine WC_sr fun K3 hK3 => ?_
  refine WL_rd (Rd_move rfl) rfl rfl rfl ?_
  refine WL_ac (Ac_call cf62 rfl (hs := kS_made)) rfl rfl rfl ?_
  rintro _ _ ⟨⟨⟩, rfl, hA⟩
  simp only [List.cons_append, List.nil_append] at hA
  replace hA := hA.symm
  subst hA
  refine WL_rd (Rd_not rfl) rfl rfl rfl ?_
  refine WL_end hK3 ?_
  refine WC_condF rfl ?_
  refine WC_skip ?_
  refine Ps_next hK2 ?_
  refine WC_sr fun K4 hK4 => ?_
  refine WL_rd (Rd_move rfl) rfl rfl rfl ?_
  refine WL_rd (Rd_nilCheck rfl) rfl rfl rfl ?_
  refine WL_rd (Rd_fieldAddr rfl fo121_2) rfl rfl rfl ?_
  refine WL_rd (Rd_load rfl tk116) rfl rfl rfl ?_
  refine WL_ac (Ac_call cf78 rfl (hs := kS_h_peek0_hp (lf := 59) (caps := []))) rfl rfl rfl ?_
  rintro _ _ ⟨⟨⟩, rfl, hA⟩
  simp only [List.cons_append, List.nil_append] at hA
  replace hA := hA.symm
  subst hA
  refine WL_rd (Rd_move rfl) rfl rfl rfl ?_
  refine WL_rd (Rd_ext0 rfl) rfl rfl rfl ?_
  refine WL_rd (Rd_ext1 rfl) rfl rfl rfl ?_
  refine WL_ac (Ac_alloc zr62) rfl rfl rfl ?_
  rintro _ _ ⟨b4, rfl, rfl⟩
  refine WL_ac0 (Ac_store rfl rfl sz62 (h1 := by simp [Value.cells, Value.oneCell', kS_h_itf])) rfl rfl ?_
  rintro _ _ rfl
  refine WL_rd (Rd_assign rfl) rfl rfl rfl ?_
  refine WL_end hK4 ?_
  refine WC_sr fun K5 hK5 => ?_
  refine WL_rd (Rd_fieldAddr rfl fo62_1) rfl rfl rfl ?_
  refine WL_rd (Rd_load rfl tk3) rfl rfl rfl ?_
  refine WL_rd (Rd_move rfl) rfl rfl rfl ?_
  refine WL_rd (Rd_assign rfl) rfl rfl rfl ?_
  refine WL_rd (Rd_assign rfl) rfl rfl rfl ?_
  refine WL_end hK5 ?_
  refine WC_ret ?_
  exact hret.go () (Rs2 rfl rfl rfl)

def kS_nxT (rows : List (Nat × (Int × Int × ByteArray))) : Int := match rows with | x :: _ => x.2.2.1 | [] => 0
def kS_nxB (rows : List (Nat × (Int × Int × ByteArray))) : Bool := match rows with | _ :: _ => true | [] => false
theorem kS_next_ {c hb made : Nat} {now : Int} {rows : List (Nat × (Int × Int × ByteArray))} : Ct Try.prog 43 [.pointer (some ⟨c, 0, none⟩)] [cl c 121 [.int .i64 now, .int .i64 ((made : Nat) : Int), .pointer (some ⟨hb, 0, none⟩)], kS_h_hpA (.func (.func 59) #[] ([] : List Value).toArray) hb rows made, emp] (fun _ : Unit => .tuple #[.int .i64 (kS_nxT rows), .bool (kS_nxB rows)]) (fun _ => [cl c 121 [.int .i64 now, .int .i64 ((made : Nat) : Int), .pointer (some ⟨hb, 0, none⟩)], kS_h_hpA (.func (.func 59) #[] ([] : List Value).toArray) hb rows made, emp]) := by
  cases rows with
  | nil => exact kS_next0
  | cons x r => exact kS_next (x := x) (hx0 := rfl)

def kS_untM (tick : Int) (rows : List (Nat × (Int × Int × ByteArray))) : List (Nat × (Int × Int × ByteArray)) × List (Nat × (Int × Int × ByteArray)) :=
  match h : rows with
  | [] => ([], [])
  | x :: r => if x.2.2.1 ≤ tick then (x :: (kS_untM tick (takeM (pl kS_lt) () (x :: r) 0).1).1, (kS_untM tick (takeM (pl kS_lt) () (x :: r) 0).1).2) else ([], x :: r)
termination_by rows.length
decreasing_by all_goals (rw [takeM_len]; simp)
theorem kS_untM_go {tick : Int} {rows : List (Nat × (Int × Int × ByteArray))} {x : Nat × (Int × Int × ByteArray)} (hx : rows[0]? = some x) (h : x.2.2.1 ≤ tick) : kS_untM tick rows = (x :: (kS_untM tick (takeM (pl kS_lt) () rows 0).1).1, (kS_untM tick (takeM (pl kS_lt) () rows 0).1).2) := by
  cases rows with
  | nil => simp at hx
  | cons y r => simp at hx; subst hx; rw [kS_untM, if_pos h]
theorem kS_untM_stop {tick : Int} {rows : List (Nat × (Int × Int × ByteArray))} (h : ∀ x, rows[0]? = some x → tick < x.2.2.1) : kS_untM tick rows = ([], rows) := by
  cases rows with
  | nil => rw [kS_untM]
  | cons y r => rw [kS_untM, if_neg (by have := h y rfl; omega)]

theorem kS_untM_len {tick : Int} : ∀ (n : Nat) (rows : List (Nat × (Int × Int × ByteArray))), rows.length ≤ n → (kS_untM tick rows).1.length + (kS_untM tick rows).2.length = rows.length
  | 0, rows, h => by
    have : rows = [] := List.eq_nil_of_length_eq_zero (by omega)
    subst this; rw [kS_untM]; rfl
  | n + 1, rows, h => by
    cases rows with
    | nil => rw [kS_untM]; rfl
    | cons x r =>
      by_cases hx : x.2.2.1 ≤ tick
      · rw [kS_untM_go (x := x) rfl hx]
        have ih := kS_untM_len (tick := tick) n (takeM (pl kS_lt) () (x :: r) 0).1 (by rw [takeM_len]; simp at h ⊢; omega)
        rw [takeM_len] at ih
        simp at ih ⊢; omega
      · rw [kS_untM_stop (by intro y hy; simp at hy; subst hy; omega)]; simp

theorem kS_until {c hb made : Nat} {now : Int} {rows : List (Nat × (Int × Int × ByteArray))} {tick : Int} (h0 : laterM now tick = 0 := by assumption) (hm : made ≤ 900000000 := by omega) : Ct Try.prog 26 [.pointer (some ⟨c, 0, none⟩), .int .i64 tick] [cl c 121 [.int .i64 now, .int .i64 ((made : Nat) : Int), .pointer (some ⟨hb, 0, none⟩)], kS_h_hpA (.func (.func 59) #[] ([] : List Value).toArray) hb rows made, emp] (fun g : Option Nat × Nat => .tuple #[sl g.1 (kS_untM tick rows).1.length g.2, .int .i64 0]) (fun g => [cl c 121 [.int .i64 tick, .int .i64 ((made : Nat) : Int), .pointer (some ⟨hb, 0, none⟩)], kS_h_hpA (.func (.func 59) #[] ([] : List Value).toArray) hb (kS_untM tick rows).2 made, emp, arr g.1 g.2 3 62 kS_eD ((kS_untM tick rows).1.map (fun r => r.2))]) := by
  refine Ct_body (n := 48) Try.func26 rfl rfl rfl fun F w0 Q hret hnorm hp => ?_
  change WC _ _ _ _ _ _ _ (_ :: _ :: _ :: F)
  refine WC_fact (fun w h => kS_h_hp_gd (lv := (.func (.func 59) #[] ([] : List Value).toArray)) (b := hb) (by repeat (first | with_reducible exact Has.here | with_reducible refine Has.there ?_)) h) (fun hG => ?_)
  have hGl := hG.len
  refine WC_sr fun K1 hK1 => ?_
  refine WL_rd (Rd_assign (v := sl none 0 0) rfl) rfl rfl rfl ?_
  refine WL_rd (Rd_assign rfl) rfl rfl rfl ?_
  refine WL_end hK1 ?_
  refine WC_seq fun K2 hK2 => ?_
  refine WC_sr fun K3 hK3 => ?_
  refine WL_rd (Rd_move rfl) rfl rfl rfl ?_
  refine WL_rd (Rd_move rfl) rfl rfl rfl ?_
  refine WL_ac (Ac_call cf60 rfl (hs := kS_later)) rfl rfl rfl ?_
  rintro _ _ ⟨⟨⟩, rfl, hA⟩
  simp only [List.cons_append, List.nil_append] at hA
  replace hA := hA.symm
  subst hA
  refine WL_rd (Rd_assign rfl) rfl rfl rfl ?_
  refine WL_end hK3 ?_
  refine WC_sr fun K4 hK4 => ?_
  refine WL_rd (Rd_move rfl) rfl rfl rfl ?_
  refine WL_rd (Rd_isF (Rd_neq rfl rfl)) rfl rfl rfl ?_
  refine WL_end hK4 ?_
  refine WC_condF rfl ?_
  refine WC_skip ?_
  refine Ps_next hK2 ?_
  refine WC_sr fun K5 hK5 => ?_
  refine WL_rd (Rd_assign (v := sl none 0 0) rfl) rfl rfl rfl ?_
  refine WL_nilarr kS_eD 3 62 ?_
  refine WL_end hK5 ?_
  refine WC_seq fun K6 hK6 => ?_
  refine WC_sr fun K7 hK7 => ?_
  refine WL_rd (Rd_move rfl) rfl rfl rfl ?_
  refine WL_ac (Ac_call cf43 rfl (hs := kS_next_)) rfl rfl rfl ?_
  rintro _ _ ⟨⟨⟩, rfl, hA⟩
  simp only [List.cons_append, List.nil_append] at hA
  replace hA := hA.symm
  subst hA
  refine WL_rd (Rd_move rfl) rfl rfl rfl ?_
  refine WL_rd (Rd_ext0 rfl) rfl rfl rfl ?_
  refine WL_rd (Rd_ext1 rfl) rfl rfl rfl ?_
  refine WL_rd (Rd_assign rfl) rfl rfl rfl ?_
  refine WL_rd (Rd_assign rfl) rfl rfl rfl ?_
  refine WL_end hK7 ?_
  refine WC_block ?_
  refine WC_loop (σ := (List (Nat × (Int × Int × ByteArray))) × Int × (List (Int × Int × ByteArray)) × (Option Nat) × Nat) (fun ⟨rows', now', out, a, cap⟩ => [(0, .pointer (some ⟨c, 0, none⟩)), (1, .int .i64 tick), (7, sl a out.length cap), (8, .int .i64 (kS_nxT rows')), (9, .bool (kS_nxB rows'))]) (fun ⟨rows', now', out, a, cap⟩ => cl c 121 [.int .i64 now', .int .i64 ((made : Nat) : Int), .pointer (some ⟨hb, 0, none⟩)] :: kS_h_hpA (.func (.func 59) #[] ([] : List Value).toArray) hb rows' made :: emp :: arr a cap 3 62 kS_eD out :: F) (fun ⟨rows', now', out, a, cap⟩ => out ++ (kS_untM tick rows').1.map (fun r => r.2) = (kS_untM tick rows).1.map (fun r => r.2) ∧ (kS_untM tick rows').2 = (kS_untM tick rows).2 ∧ out.length + rows'.length = rows.length) (fun ⟨rows', now', out, a, cap⟩ => rows'.length) ⟨rows, now, [], none, 0⟩ ?_ ?_ ?_ ?_
  · exact ⟨by simp, rfl, by simp⟩
  · exact (Wk.cons (by first | rfl | (simp only [List.length_append, List.length_cons, List.length_nil, List.length_replicate, Nat.zero_add]; rfl) | (simp; done)) (Wk.cons (by first | rfl | (simp only [List.length_append, List.length_cons, List.length_nil, List.length_replicate, Nat.zero_add]; rfl) | (simp; done)) (Wk.cons (by first | rfl | (simp only [List.length_append, List.length_cons, List.length_nil, List.length_replicate, Nat.zero_add]; rfl) | (simp; done)) (Wk.cons (by first | rfl | (simp only [List.length_append, List.length_cons, List.length_nil, List.length_replicate, Nat.zero_add]; rfl) | (simp; done)) (Wk.cons (by first | rfl | (simp only [List.length_append, List.length_cons, List.length_nil, List.length_replicate, Nat.zero_add]; rfl) | (simp; done)) Wk.nil)))))
  · repeat (first | with_reducible exact Sub.refl | with_reducible exact Sub.nil | with_reducible refine Sub.cons (by repeat (first | with_reducible exact Ext.here | with_reducible apply Ext.there)) ?_ | with_reducible refine Sub.tail ?_)
  · rintro ⟨rows', now', out, a, cap⟩ ⟨ho, hr, hl⟩ K8 hK8
    dsimp only at *
    refine WC_seq fun K9 hK9 => ?_
    refine WC_sr fun K10 hK10 => ?_
    refine WL_rd (Rd_move rfl) rfl rfl rfl ?_
    refine WL_rd (Rd_move rfl) rfl rfl rfl ?_
    refine WL_bool 24 rfl (fun hg11 => ?_) (fun hg11 => ?_)
    · try simp only [decide_eq_true_eq, decide_eq_false_iff_not, Bool.not_eq_true', Bool.not_eq_false', Bool.not_eq_true, Bool.not_eq_false, Int.not_lt, Int.not_le, Nat.not_lt, Nat.not_le, Decidable.not_not, ne_eq] at hg11
      obtain ⟨x, hx0⟩ : ∃ x, rows'[0]? = some x := by cases rows' with | nil => simp [kS_nxB] at hg11 | cons y r => exact ⟨y, rfl⟩
      have hnx : kS_nxT rows' = x.2.2.1 := by cases rows' with | nil => simp at hx0 | cons y r => simp at hx0; subst hx0; rfl
      have hlt := (List.getElem?_eq_some_iff.1 hx0).1
      refine WL_rd (Rd_move rfl) rfl rfl rfl ?_
      refine WL_rd (Rd_move rfl) rfl rfl rfl ?_
      refine WL_rd (Rd_leq rfl rfl) rfl rfl rfl ?_
      refine WL_rd (Rd_pickT rfl rfl) rfl rfl rfl ?_
      refine WL_end hK10 ?_
      refine WC_cond rfl (fun hc1 => ?_) (fun hc1 => ?_)
      · try simp only [decide_eq_true_eq, decide_eq_false_iff_not, Bool.not_eq_true', Bool.not_eq_false', Bool.not_eq_true, Bool.not_eq_false, Int.not_lt, Int.not_le, Nat.not_lt, Nat.not_le, Decidable.not_not, ne_eq] at hc1
        have hle : x.2.2.1 ≤ tick := by rw [← hnx]; assumption
        refine WC_skip ?_
        refine Ps_next hK9 ?_
        refine WC_seq fun K12 hK12 => ?_
        refine WC_block ?_
        refine WC_sr fun K13 hK13 => ?_
        refine WL_rd (Rd_move rfl) rfl rfl rfl ?_
        refine WL_ac (Ac_call cf25 rfl (hs := kS_take (x := x))) rfl rfl rfl ?_
        rintro _ _ ⟨⟨⟩, rfl, hA⟩
        simp only [List.cons_append, List.nil_append] at hA
        replace hA := hA.symm
        subst hA
        refine WL_rd (Rd_move rfl) rfl rfl rfl ?_
        refine WL_rd (Rd_ext0 rfl) rfl rfl rfl ?_
        refine WL_rd (Rd_ext1 rfl) rfl rfl rfl ?_
        refine WL_ac (Ac_alloc zr62) rfl rfl rfl ?_
        rintro _ _ ⟨b10, rfl, rfl⟩
        refine WL_ac0 (Ac_store rfl rfl sz62 (h1 := by simp [Value.cells, Value.oneCell', kS_h_itf])) rfl rfl ?_
        rintro _ _ rfl
        refine WL_rd (Rd_assign rfl) rfl rfl rfl ?_
        refine WL_end hK13 ?_
        refine WC_region ?_
        refine WL_rd (Rd_move rfl) rfl rfl rfl ?_
        refine WL_rd (Rd_loadg rfl tk62) rfl rfl rfl ?_
        refine WL_ac (Ac_bs1 rfl ud65 zr62 sz62) rfl rfl rfl ?_
        rintro _ _ ⟨b41, rfl, rfl⟩
        refine WL_ac (Ac_append1 (f := kS_eD) kS_encD x.2 rfl rfl ud65 ud65 el62) rfl rfl rfl ?_
        rintro _ _ ⟨a42, cap42, rfl, rfl⟩
        refine WL_rd (Rd_assign rfl) rfl rfl rfl ?_
        refine WL_nil ?_
        refine Ps_next hK12 ?_
        refine WC_region ?_
        refine WL_rd (Rd_move rfl) rfl rfl rfl ?_
        refine WL_ac (Ac_call cf43 rfl (hs := kS_next_)) rfl rfl rfl ?_
        rintro _ _ ⟨⟨⟩, rfl, hA⟩
        simp only [List.cons_append, List.nil_append] at hA
        replace hA := hA.symm
        subst hA
        refine WL_rd (Rd_move rfl) rfl rfl rfl ?_
        refine WL_rd (Rd_ext0 rfl) rfl rfl rfl ?_
        refine WL_rd (Rd_ext1 rfl) rfl rfl rfl ?_
        refine WL_rd (Rd_assign rfl) rfl rfl rfl ?_
        refine WL_rd (Rd_assign rfl) rfl rfl rfl ?_
        refine WL_nil ?_
        refine Ps_wk ((Wk.cons (by first | rfl | (simp only [List.length_append, List.length_cons, List.length_nil, List.length_replicate, Nat.zero_add]; rfl) | (simp; done)) (Wk.cons (by first | rfl | (simp only [List.length_append, List.length_cons, List.length_nil, List.length_replicate, Nat.zero_add]; rfl) | (simp; done)) (Wk.cons (by first | rfl | (simp only [List.length_append, List.length_cons, List.length_nil, List.length_replicate, Nat.zero_add]; rfl) | (simp; done)) (Wk.cons (by first | rfl | (simp only [List.length_append, List.length_cons, List.length_nil, List.length_replicate, Nat.zero_add]; rfl) | (simp; done)) (Wk.cons (by first | rfl | (simp only [List.length_append, List.length_cons, List.length_nil, List.length_replicate, Nat.zero_add]; rfl) | (simp; done)) Wk.nil)))))) (by first | with_reducible exact Sub.refl | ((try dsimp only); repeat (first | with_reducible exact Sub.refl | with_reducible exact Sub.nil | with_reducible refine Sub.cons (by repeat (first | with_reducible exact Ext.here | with_reducible apply Ext.there)) ?_ | with_reducible refine Sub.tail ?_))) (hK8 ⟨(takeM (pl kS_lt) () rows' 0).1, x.2.2.1, out ++ [x.2], a42, cap42⟩ (⟨by rw [← ho, kS_untM_go hx0 hle]; simp, by rw [← hr, kS_untM_go hx0 hle], by dsimp only; rw [takeM_len]; simp; omega⟩) (by dsimp only; rw [takeM_len]; omega))
      · try simp only [decide_eq_true_eq, decide_eq_false_iff_not, Bool.not_eq_true', Bool.not_eq_false', Bool.not_eq_true, Bool.not_eq_false, Int.not_lt, Int.not_le, Nat.not_lt, Nat.not_le, Decidable.not_not, ne_eq] at hc1
        have hst : kS_untM tick rows' = ([], rows') := kS_untM_stop (by intro y hy; first | (rw [hx0] at hy; cases hy; omega) | (cases rows' with | nil => simp at hy | cons z r => simp_all [kS_nxB]))
        rw [hst] at ho hr
        simp only [List.map_nil, List.append_nil] at ho
        dsimp only at hr
        have hlen : out.length = (kS_untM tick rows).1.length := by have := congrArg List.length ho; simpa using this
        rw [← hlen, ← ho, ← hr] at hret
        refine WC_exit ?_
        refine Ps_next hK6 ?_
        refine WC_sr fun K14 hK14 => ?_
        refine WL_rd (Rd_move rfl) rfl rfl rfl ?_
        refine WL_rd (Rd_move rfl) rfl rfl rfl ?_
        refine WL_rd (Rd_nilCheck rfl) rfl rfl rfl ?_
        refine WL_rd (Rd_fieldAddr rfl fo121_0) rfl rfl rfl ?_
        refine WL_ac0 (Ac_store1 rfl rfl sz3) rfl rfl ?_
        rintro _ _ rfl
        refine WL_end hK14 ?_
        refine WC_sr fun K15 hK15 => ?_
        refine WL_rd (Rd_move rfl) rfl rfl rfl ?_
        refine WL_rd (Rd_assign rfl) rfl rfl rfl ?_
        refine WL_rd (Rd_assign rfl) rfl rfl rfl ?_
        refine WL_end hK15 ?_
        refine WC_ret ?_
        exact hret.go (a, cap) (Rs2 rfl rfl rfl)
    · try simp only [decide_eq_true_eq, decide_eq_false_iff_not, Bool.not_eq_true', Bool.not_eq_false', Bool.not_eq_true, Bool.not_eq_false, Int.not_lt, Int.not_le, Nat.not_lt, Nat.not_le, Decidable.not_not, ne_eq] at hg11
      refine WL_skip rfl rfl rfl ?_
      refine WL_skip rfl rfl rfl ?_
      refine WL_skip rfl rfl rfl ?_
      refine WL_rd (Rd_pickF rfl rfl) rfl rfl rfl ?_
      refine WL_end hK10 ?_
      refine WC_condF rfl ?_
      have hst : kS_untM tick rows' = ([], rows') := kS_untM_stop (by intro y hy; first | (rw [hx0] at hy; cases hy; omega) | (cases rows' with | nil => simp at hy | cons z r => simp_all [kS_nxB]))
      rw [hst] at ho hr
      simp only [List.map_nil, List.append_nil] at ho
      dsimp only at hr
      have hlen : out.length = (kS_untM tick rows).1.length := by have := congrArg List.length ho; simpa using this
      rw [← hlen, ← ho, ← hr] at hret
      refine WC_exit ?_
      refine Ps_next hK6 ?_
      refine WC_sr fun K16 hK16 => ?_
      refine WL_rd (Rd_move rfl) rfl rfl rfl ?_
      refine WL_rd (Rd_move rfl) rfl rfl rfl ?_
      refine WL_rd (Rd_nilCheck rfl) rfl rfl rfl ?_
      refine WL_rd (Rd_fieldAddr rfl fo121_0) rfl rfl rfl ?_
      refine WL_ac0 (Ac_store1 rfl rfl sz3) rfl rfl ?_
      rintro _ _ rfl
      refine WL_end hK16 ?_
      refine WC_sr fun K17 hK17 => ?_
      refine WL_rd (Rd_move rfl) rfl rfl rfl ?_
      refine WL_rd (Rd_assign rfl) rfl rfl rfl ?_
      refine WL_rd (Rd_assign rfl) rfl rfl rfl ?_
      refine WL_end hK17 ?_
      refine WC_ret ?_
      exact hret.go (a, cap) (Rs2 rfl rfl rfl)

theorem kS_until_no {c hb made : Nat} {now : Int} {rows : List (Nat × (Int × Int × ByteArray))} {tick : Int} (h0 : laterM now tick ≠ 0 := by assumption) : Ct Try.prog 26 [.pointer (some ⟨c, 0, none⟩), .int .i64 tick] [cl c 121 [.int .i64 now, .int .i64 ((made : Nat) : Int), .pointer (some ⟨hb, 0, none⟩)], kS_h_hpA (.func (.func 59) #[] ([] : List Value).toArray) hb rows made, emp] (fun _ : Unit => .tuple #[sl none 0 0, .int .i64 (laterM now tick)]) (fun _ => [cl c 121 [.int .i64 now, .int .i64 ((made : Nat) : Int), .pointer (some ⟨hb, 0, none⟩)], kS_h_hpA (.func (.func 59) #[] ([] : List Value).toArray) hb rows made, emp]) := by
  refine Ct_body (n := 48) Try.func26 rfl rfl rfl fun F w0 Q hret hnorm hp => ?_
  change WC _ _ _ _ _ _ _ (_ :: _ :: _ :: F)
  refine WC_sr fun K1 hK1 => ?_
  refine WL_rd (Rd_assign (v := sl none 0 0) rfl) rfl rfl rfl ?_
  refine WL_rd (Rd_assign rfl) rfl rfl rfl ?_
  refine WL_end hK1 ?_
  refine WC_seq fun K2 hK2 => ?_
  refine WC_sr fun K3 hK3 => ?_
  refine WL_rd (Rd_move rfl) rfl rfl rfl ?_
  refine WL_rd (Rd_move rfl) rfl rfl rfl ?_
  refine WL_ac (Ac_call cf60 rfl (hs := kS_later)) rfl rfl rfl ?_
  rintro _ _ ⟨⟨⟩, rfl, hA⟩
  simp only [List.cons_append, List.nil_append] at hA
  replace hA := hA.symm
  subst hA
  refine WL_rd (Rd_assign rfl) rfl rfl rfl ?_
  refine WL_end hK3 ?_
  refine WC_sr fun K4 hK4 => ?_
  refine WL_rd (Rd_move rfl) rfl rfl rfl ?_
  refine WL_rd (Rd_isT (Rd_neq rfl rfl)) rfl rfl rfl ?_
  refine WL_end hK4 ?_
  refine WC_condT rfl ?_
  refine WC_sr fun K5 hK5 => ?_
  refine WL_rd (Rd_move rfl) rfl rfl rfl ?_
  refine WL_rd (Rd_assign (v := sl none 0 0) rfl) rfl rfl rfl ?_
  refine WL_rd (Rd_assign rfl) rfl rfl rfl ?_
  refine WL_end hK5 ?_
  refine WC_ret ?_
  exact hret.go () (Rs2 rfl rfl rfl)
end Go.Proofs.Ytcemkpiopijbmaa
